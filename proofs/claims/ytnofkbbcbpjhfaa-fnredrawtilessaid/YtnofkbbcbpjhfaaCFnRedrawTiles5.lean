/- A part of the proof that the statement FnRedrawTilesSaid holds, under no condition of its own: Redrawn tiles are those of the whole picture: the law FnRedrawTiles over lists of numbers alone. -/
import Derived.Test.YtnofkbbcbpjhfaaCFnRedrawTiles1
import Derived.Test.YtnofkbbcbpjhfaaCFnRedrawTiles2
import Derived.Test.YtnofkbbcbpjhfaaCFnRedrawTiles4
import Derived.Test.YtnofkbbcbpjhfaaRows
import Derived.JoinedOf
import Derived.KernelRfl
import Derived.WalkKit
import Derived.ProofKit
import Derived.OpenShut
import Derived.ShutString
import Derived.ChangeOld
import Derived.Below
import Derived.SizedLaws
import Derived.Test.YtnofkbbcbpjhfaaCFnRedrawTilesW1
namespace Go.Proofs.Ytnofkbbcbpjhfaa.Q
open Go.RowKit Go.Proofs.YtnofkbbcbpjhfaaW.PrintWords Go.Proofs.YtnofkbbcbpjhfaaW.PrintLast Go.Proofs.YtnofkbbcbpjhfaaW.PrintMore
attribute [local go_sem] max2_int min2_int max_two min_two max_three min_three max_four min_four
set_option linter.unusedVariables false
set_option linter.unusedSimpArgs false
open Go.Proofs.YtnofkbbcbpjhfaaW.PrintWords.Aside0 (mk)
set_option maxHeartbeats 12000000
set_option maxRecDepth 100000
mutual
def impl_RedrawTiles.j0 : Nat → List S55 → List Int → Bool → Int → Int → Int → List Int → Int → Int → Int → List Int → Option (Int × Int × Int × List Int × Bool)
 | 0, _, _, _, _, _, _, _, _, _, _, _ => none
 | k + 1, x2, x3, x31, xz3, xz4, xz5, xz6, xz7, xz8, xz9, xz10 => if x31 = true then (some (0, 0, 0, ([] : List Int), false)) else ((impl_tileBoxes.f k xz7 xz8 xz9 xz10).bind fun tz0 => (impl_RedrawTiles.l0 k x2 x3 tz0 x3 (x3.length : Int) 0 xz3 xz4 xz5 xz6 xz7 xz8 xz9 xz10))
def impl_RedrawTiles.l0 : Nat → List S55 → List Int → List S47 → List Int → Int → Int → Int → Int → Int → List Int → Int → Int → Int → List Int → Option (Int × Int × Int × List Int × Bool)
 | 0, _, _, _, _, _, _, _, _, _, _, _, _, _, _ => none
 | k + 1, x2, x3, x10, x35, x36, x37, xz3, xz4, xz5, xz6, xz7, xz8, xz9, xz10 => if x37 < x36 then (if 0 ≤ x37 then (if x37 < (x35.length : Int) then (if (rd x35 x37) < 0 then (some (0, 0, 0, ([] : List Int), false)) else (if (rd x35 x37) ≥ (x10.length : Int) then (some (0, 0, 0, ([] : List Int), false)) else (if x37 > 0 then (if 0 ≤ (wrap64 (x37 - 1)) then (if (wrap64 (x37 - 1)) < (x3.length : Int) then (if (rd x3 (wrap64 (x37 - 1))) ≥ (rd x35 x37) then (some (0, 0, 0, ([] : List Int), false)) else (impl_RedrawTiles.l0 k x2 x3 x10 x35 x36 (wrap64 (x37 + 1)) xz3 xz4 xz5 xz6 xz7 xz8 xz9 xz10)) else none) else none) else (impl_RedrawTiles.l0 k x2 x3 x10 x35 x36 (wrap64 (x37 + 1)) xz3 xz4 xz5 xz6 xz7 xz8 xz9 xz10)))) else none) else none) else ((impl_flatten.f k xz7 xz8 xz9 xz10 x2).bind fun btz0 => (if btz0.2.2.2.2 = true then (impl_RedrawTiles.l1 k x10 (([] : List S47)) x3 (x3.length : Int) 0 xz3 xz4 xz5 xz6 btz0.1 btz0.2.1 btz0.2.2.1 btz0.2.2.2.1) else (some (0, 0, 0, ([] : List Int), false))))
def impl_RedrawTiles.l1 : Nat → List S47 → List S47 → List Int → Int → Int → Int → Int → Int → List Int → Int → Int → Int → List Int → Option (Int × Int × Int × List Int × Bool)
 | 0, _, _, _, _, _, _, _, _, _, _, _, _, _ => none
 | k + 1, x10, x15, x75, x76, x77, xz3, xz4, xz5, xz6, xz11, xz12, xz13, xz14 => if x77 < x76 then (if 0 ≤ x77 then (if x77 < (x75.length : Int) then (if 0 ≤ (rd x75 x77) then (if (rd x75 x77) < (x10.length : Int) then (if x15.length < 4398046511104 then (impl_RedrawTiles.l1 k x10 (x15 ++ [(⟨(rd_T47 x10 (rd x75 x77)).f0, (rd_T47 x10 (rd x75 x77)).f1, (rd_T47 x10 (rd x75 x77)).f2, (rd_T47 x10 (rd x75 x77)).f3⟩ : S47)]) x75 x76 (wrap64 (x77 + 1)) xz3 xz4 xz5 xz6 xz11 xz12 xz13 xz14) else none) else none) else none) else none) else none) else ((impl_patched.f xz3 xz4 xz5 xz6 xz11 xz12 xz13 xz14 x15).bind fun btz1 => (some (btz1.1, btz1.2.1, btz1.2.2.1, btz1.2.2.2, true)))
end
def impl_RedrawTiles.f (k : Nat) (a0_0 : Int) (a0_1 : Int) (a0_2 : Int) (l0_3 : List Int) (a1_0 : Int) (a1_1 : Int) (a1_2 : Int) (l1_3 : List Int) (l2 : List S55) (l3 : List Int) : Option (Int × Int × Int × List Int × Bool) := (impl_isImage.f a0_0 a0_1 a0_2 l0_3).bind fun tz8 => (if tz8 = true then ((impl_isImage.f a1_0 a1_1 a1_2 l1_3).bind fun tz6 => (if tz6 = true then ((impl_alikeImages.f a0_0 a0_1 a0_2 l0_3 a1_0 a1_1 a1_2 l1_3).bind fun tz5 => (impl_RedrawTiles.j0 k l2 l3 (!tz5) a0_0 a0_1 a0_2 l0_3 a1_0 a1_1 a1_2 l1_3)) else (impl_RedrawTiles.j0 k l2 l3 true a0_0 a0_1 a0_2 l0_3 a1_0 a1_1 a1_2 l1_3))) else (impl_RedrawTiles.j0 k l2 l3 true a0_0 a0_1 a0_2 l0_3 a1_0 a1_1 a1_2 l1_3))
theorem impl_RedrawTiles.calls (k : Nat) (a0_0 : Int) (a0_1 : Int) (a0_2 : Int) (A0_3 : Option Addr) (c0_3 : Nat) (l0_3 : List Int) (a1_0 : Int) (a1_1 : Int) (a1_2 : Int) (A1_3 : Option Addr) (c1_3 : Nat) (l1_3 : List Int) (A2 : Option Addr) (c2 : Nat) (l2 : List S55) (A3 : Option Addr) (c3 : Nat) (l3 : List Int) (r1 : Int) (r2 : Int) (r3 : Int) (r4 : List Int) (r5 : Bool) (w : World) (hr0_3 : Kd.C (Kd.int .i64) w A0_3 l0_3.length l0_3) (hc0_3 : l0_3.length ≤ c0_3) (hr1_3 : Kd.C (Kd.int .i64) w A1_3 l1_3.length l1_3) (hc1_3 : l1_3.length ≤ c1_3) (hr2 : Kd.C k55 w A2 l2.length l2) (hc2 : l2.length ≤ c2) (hr3 : Kd.C (Kd.int .i64) w A3 l3.length l3) (hc3 : l3.length ≤ c3) (h : impl_RedrawTiles.f k a0_0 a0_1 a0_2 l0_3 a1_0 a1_1 a1_2 l1_3 l2 l3 = some (r1, r2, r3, r4, r5)) :
  Calls Try.prog 78 #[.agg #[.int .i64 a0_0, .int .i64 a0_1, .int .i64 a0_2, .slice A0_3 l0_3.length c0_3], .agg #[.int .i64 a1_0, .int .i64 a1_1, .int .i64 a1_2, .slice A1_3 l1_3.length c1_3], .slice A2 l2.length c2, .slice A3 l3.length c3] w fun e w' => ∃ v3_ : Value, e = .returned (.tuple #[.agg #[.int .i64 r1, .int .i64 r2, .int .i64 r3, v3_], .bool r5]) ∧ Kd.R (Kd.int .i64) 3 w' w.heap.size (fun _ => True) v3_ r4 ∧ Below w.heap.size w w' := by
 have hu27 := Try.underlying27
 have hu47 := Try.underlying47
 have HR0_3 := mk hr0_3
 have HC0_3 := mk hc0_3
 clear hr0_3 hc0_3
 have HR1_3 := mk hr1_3
 have HC1_3 := mk hc1_3
 clear hr1_3 hc1_3
 have HR2 := mk hr2
 have HC2 := mk hc2
 clear hr2 hc2
 have HR3 := mk hr3
 have HC3 := mk hc3
 clear hr3 hc3
 have HB := mk (Below.refl w.heap.size w)
 have H : ((impl_isImage.f a0_0 a0_1 a0_2 l0_3).bind fun tz8 => (if tz8 = true then ((impl_isImage.f a1_0 a1_1 a1_2 l1_3).bind fun tz6 => (if tz6 = true then ((impl_alikeImages.f a0_0 a0_1 a0_2 l0_3 a1_0 a1_1 a1_2 l1_3).bind fun tz5 => (impl_RedrawTiles.j0 k l2 l3 (!tz5) a0_0 a0_1 a0_2 l0_3 a1_0 a1_1 a1_2 l1_3)) else (impl_RedrawTiles.j0 k l2 l3 true a0_0 a0_1 a0_2 l0_3 a1_0 a1_1 a1_2 l1_3))) else (impl_RedrawTiles.j0 k l2 l3 true a0_0 a0_1 a0_2 l0_3 a1_0 a1_1 a1_2 l1_3))) = some (r1, r2, r3, r4, r5) := h
 clear h
 have HC5 := mk H
 clear H
 go_enter Try.func78, Try.ntmps78
 go_upto_region 1 with (first | ((with_reducible refine gate_dst (N := 4) rfl ?_); (try (refine gate_guard (by rfl) ?_; dsimp only)); refine box_event (by rfl) (N := 4) (by rfl) (cs := #[.int .i64 a0_0, .int .i64 a0_1, .int .i64 a0_2, .slice A0_3 l0_3.length c0_3]) (t := 27) (by go_simp; done) ?_; intro gbz3 hg w6 hbox hb; replace HB := mk (below_step HB.out hb); have BKz2 := mk (hbox); clear hb hbox hg) | ((with_reducible refine gate_dst (N := 5) rfl ?_); (try (refine gate_guard (by rfl) ?_; dsimp only)); refine box_event (by rfl) (N := 5) (by rfl) (cs := #[.int .i64 a1_0, .int .i64 a1_1, .int .i64 a1_2, .slice A1_3 l1_3.length c1_3]) (t := 27) (by go_simp; done) ?_; intro gbz2 hg w7 hbox hb; replace BKz2 := mk (blk_below BKz2.out hb); replace HB := mk (below_step HB.out hb); have BKz1 := mk (hbox); clear hb hbox hg) | ((with_reducible refine gate_dst (N := 8) rfl ?_); (try (refine gate_guard (by rfl) ?_; dsimp only)); refine box_event (by rfl) (N := 8) (by rfl) (cs := #[.int .i64 0, .int .i64 0, .int .i64 0, .slice none 0 0]) (t := 27) (by go_simp; done) ?_; intro gbz0 hg w8 hbox hb; replace BKz1 := mk (blk_below BKz1.out hb); have BKz0 := mk (hbox); have GEz0 := mk ((by rw [hg]; exact (below_size HB.out) : w.heap.size ≤ gbz0)); replace HB := mk (below_step HB.out hb); have NBz3 := mk ((by rw [hg]; exact Nat.ne_of_lt (blk_lt BKz2.out) : gbz3 ≠ gbz0)); have NBz4 := mk ((by rw [hg]; exact Nat.ne_of_gt (blk_lt BKz2.out) : gbz0 ≠ gbz3)); replace BKz2 := mk (blk_below BKz2.out hb); clear hb hbox hg))
 go_cut [31] (fun v31 wc => ∃ (kq : Nat) (x31_4 : Bool), v31 = .bool x31_4 ∧ Aside0 (impl_RedrawTiles.j0 kq l2 l3 x31_4 a0_0 a0_1 a0_2 l0_3 a1_0 a1_1 a1_2 l1_3 = some (r1, r2, r3, r4, r5)) ∧ Aside0 (kq ≤ k) ∧ Aside0 (wc.heap[gbz3]? = some (.cells #[.int .i64 a0_0, .int .i64 a0_1, .int .i64 a0_2, (.slice A0_3 l0_3.length c0_3)] 27 (0, 0))) ∧ Aside0 (wc.heap[gbz2]? = some (.cells #[.int .i64 a1_0, .int .i64 a1_1, .int .i64 a1_2, (.slice A1_3 l1_3.length c1_3)] 27 (0, 0))) ∧ Aside0 (wc.heap[gbz0]? = some (.cells #[.int .i64 0, .int .i64 0, .int .i64 0, (.slice none 0 0)] 27 (0, 0))) ∧ Aside0 (Below w.heap.size w wc))
 case first =>
  have H := HC5.out
  clear HC5
  replace H := Option.bind_eq_some_iff.mp H
  obtain ⟨tz8, A90, H⟩ := H
  replace H : (if tz8 = true then ((impl_isImage.f a1_0 a1_1 a1_2 l1_3).bind fun tz6 => (if tz6 = true then ((impl_alikeImages.f a0_0 a0_1 a0_2 l0_3 a1_0 a1_1 a1_2 l1_3).bind fun tz5 => (impl_RedrawTiles.j0 k l2 l3 (!tz5) a0_0 a0_1 a0_2 l0_3 a1_0 a1_1 a1_2 l1_3)) else (impl_RedrawTiles.j0 k l2 l3 true a0_0 a0_1 a0_2 l0_3 a1_0 a1_1 a1_2 l1_3))) else (impl_RedrawTiles.j0 k l2 l3 true a0_0 a0_1 a0_2 l0_3 a1_0 a1_1 a1_2 l1_3)) = some (r1, r2, r3, r4, r5) := H
  have A9 := mk A90
  clear A90
  by_cases c10 : tz8 = true
  ·subst c10
   have H1 : ((impl_isImage.f a1_0 a1_1 a1_2 l1_3).bind fun tz6 => (if tz6 = true then ((impl_alikeImages.f a0_0 a0_1 a0_2 l0_3 a1_0 a1_1 a1_2 l1_3).bind fun tz5 => (impl_RedrawTiles.j0 k l2 l3 (!tz5) a0_0 a0_1 a0_2 l0_3 a1_0 a1_1 a1_2 l1_3)) else (impl_RedrawTiles.j0 k l2 l3 true a0_0 a0_1 a0_2 l0_3 a1_0 a1_1 a1_2 l1_3))) = some (r1, r2, r3, r4, r5) := by rw [if_pos rfl] at H; exact H
   clear H
   have H := H1
   clear H1
   replace H := Option.bind_eq_some_iff.mp H
   obtain ⟨tz6, A110, H⟩ := H
   replace H : (if tz6 = true then ((impl_alikeImages.f a0_0 a0_1 a0_2 l0_3 a1_0 a1_1 a1_2 l1_3).bind fun tz5 => (impl_RedrawTiles.j0 k l2 l3 (!tz5) a0_0 a0_1 a0_2 l0_3 a1_0 a1_1 a1_2 l1_3)) else (impl_RedrawTiles.j0 k l2 l3 true a0_0 a0_1 a0_2 l0_3 a1_0 a1_1 a1_2 l1_3)) = some (r1, r2, r3, r4, r5) := H
   have A11 := mk A110
   clear A110
   by_cases c12 : tz6 = true
   ·subst c12
    have H1 : ((impl_alikeImages.f a0_0 a0_1 a0_2 l0_3 a1_0 a1_1 a1_2 l1_3).bind fun tz5 => (impl_RedrawTiles.j0 k l2 l3 (!tz5) a0_0 a0_1 a0_2 l0_3 a1_0 a1_1 a1_2 l1_3)) = some (r1, r2, r3, r4, r5) := by rw [if_pos rfl] at H; exact H
    clear H
    have H := H1
    clear H1
    replace H := Option.bind_eq_some_iff.mp H
    obtain ⟨tz5, A130, H⟩ := H
    replace H : (impl_RedrawTiles.j0 k l2 l3 (!tz5) a0_0 a0_1 a0_2 l0_3 a1_0 a1_1 a1_2 l1_3) = some (r1, r2, r3, r4, r5) := H
    have A13 := mk A130
    clear A130
    have H' := mk H
    clear H
    obtain ⟨hcz16_0, hcz16_1, hcz16_2, hcz16_3, -⟩ := c4 BKz2.out
    go_wp2_with (first | ((with_reducible refine gate_callee (f := 83) rfl ?_); refine goesL_ (some 19) rfl rfl Try.func83 (by kernel_rfl) rfl #[.agg #[.int .i64 a0_0, .int .i64 a0_1, .int .i64 a0_2, .slice A0_3 l0_3.length c0_3]] rfl (by (try simp only [bitvec_to_nat]); rfl) ?_; (with_reducible refine (impl_isImage.calls a0_0 a0_1 a0_2 _ _ l0_3 true _ ?side1 ?side2 A9.out).mono ?_); (case side1 => repeat (exact (Kd.C_below HR0_3.out HB.out))); (case side2 => exact HC0_3.out); rintro e w17 ⟨rfl, hb⟩; refine ⟨_, rfl, ?_⟩; replace BKz2 := mk (blk_below BKz2.out hb); replace BKz1 := mk (blk_below BKz1.out hb); replace BKz0 := mk (blk_below BKz0.out hb); replace HB := mk (below_step HB.out hb); obtain ⟨hcz19_0, hcz19_1, hcz19_2, -⟩ := c4 BKz1.out; have hcz19_3 : w17.cell? ⟨gbz2, 3, none⟩ = some (.slice A1_3 l1_3.length c1_3) := (blk_cell BKz1.out 3).trans rfl) | (go_at_call 83; (with_reducible refine (impl_isImage.calls a1_0 a1_1 a1_2 _ _ l1_3 true _ ?side1 ?side2 A11.out).mono ?_); (case side1 => repeat (exact (Kd.C_below HR1_3.out HB.out))); (case side2 => exact HC1_3.out); rintro e w20 ⟨rfl, hb⟩; replace BKz2 := mk (blk_below BKz2.out hb); replace BKz1 := mk (blk_below BKz1.out hb); replace BKz0 := mk (blk_below BKz0.out hb); replace HB := mk (below_step HB.out hb); obtain ⟨hcz21_0, hcz21_1, hcz21_2, hcz21_3, -⟩ := c4 BKz2.out; obtain ⟨hcz22_0, hcz22_1, hcz22_2, -⟩ := c4 BKz1.out; have hcz22_3 : w20.cell? ⟨gbz2, 3, none⟩ = some (.slice A1_3 l1_3.length c1_3) := (blk_cell BKz1.out 3).trans rfl) | (go_at_call 84; (with_reducible refine (impl_alikeImages.calls a0_0 a0_1 a0_2 _ _ l0_3 a1_0 a1_1 a1_2 _ _ l1_3 tz5 _ ?side1 ?side2 ?side3 ?side4 A13.out).mono ?_); (case side1 => repeat (exact (Kd.C_below HR0_3.out HB.out))); (case side2 => exact HC0_3.out); (case side3 => repeat (exact (Kd.C_below HR1_3.out HB.out))); (case side4 => exact HC1_3.out); rintro e w23 ⟨rfl, hb⟩; replace BKz2 := mk (blk_below BKz2.out hb); replace BKz1 := mk (blk_below BKz1.out hb); replace BKz0 := mk (blk_below BKz0.out hb); replace HB := mk (below_step HB.out hb)))
    go_meet
    case rel => exact ⟨_, (!tz5), (by rfl), H', ⟨by omega⟩, BKz2, BKz1, BKz0, HB⟩
   replace c12 := Bool.eq_false_iff.mpr c12
   subst c12
   have H1 : (impl_RedrawTiles.j0 k l2 l3 true a0_0 a0_1 a0_2 l0_3 a1_0 a1_1 a1_2 l1_3) = some (r1, r2, r3, r4, r5) := by rw [if_neg (show ¬ (false = true) by decide)] at H; exact H
   clear H
   have H := H1
   clear H1
   have H' := mk H
   clear H
   obtain ⟨hcz26_0, hcz26_1, hcz26_2, hcz26_3, -⟩ := c4 BKz2.out
   go_wp2_with (first | ((with_reducible refine gate_callee (f := 83) rfl ?_); refine goesL_ (some 19) rfl rfl Try.func83 (by kernel_rfl) rfl #[.agg #[.int .i64 a0_0, .int .i64 a0_1, .int .i64 a0_2, .slice A0_3 l0_3.length c0_3]] rfl (by (try simp only [bitvec_to_nat]); rfl) ?_; (with_reducible refine (impl_isImage.calls a0_0 a0_1 a0_2 _ _ l0_3 true _ ?side1 ?side2 A9.out).mono ?_); (case side1 => repeat (exact (Kd.C_below HR0_3.out HB.out))); (case side2 => exact HC0_3.out); rintro e w27 ⟨rfl, hb⟩; refine ⟨_, rfl, ?_⟩; replace BKz2 := mk (blk_below BKz2.out hb); replace BKz1 := mk (blk_below BKz1.out hb); replace BKz0 := mk (blk_below BKz0.out hb); replace HB := mk (below_step HB.out hb); obtain ⟨hcz29_0, hcz29_1, hcz29_2, -⟩ := c4 BKz1.out; have hcz29_3 : w27.cell? ⟨gbz2, 3, none⟩ = some (.slice A1_3 l1_3.length c1_3) := (blk_cell BKz1.out 3).trans rfl) | (go_at_call 83; (with_reducible refine (impl_isImage.calls a1_0 a1_1 a1_2 _ _ l1_3 false _ ?side1 ?side2 A11.out).mono ?_); (case side1 => repeat (exact (Kd.C_below HR1_3.out HB.out))); (case side2 => exact HC1_3.out); rintro e w30 ⟨rfl, hb⟩; replace BKz2 := mk (blk_below BKz2.out hb); replace BKz1 := mk (blk_below BKz1.out hb); replace BKz0 := mk (blk_below BKz0.out hb); replace HB := mk (below_step HB.out hb)))
   go_meet
   case rel => exact ⟨_, (true), (by rfl), H', ⟨by omega⟩, BKz2, BKz1, BKz0, HB⟩
  replace c10 := Bool.eq_false_iff.mpr c10
  subst c10
  have H1 : (impl_RedrawTiles.j0 k l2 l3 true a0_0 a0_1 a0_2 l0_3 a1_0 a1_1 a1_2 l1_3) = some (r1, r2, r3, r4, r5) := by rw [if_neg (show ¬ (false = true) by decide)] at H; exact H
  clear H
  have H := H1
  clear H1
  have H' := mk H
  clear H
  obtain ⟨hcz33_0, hcz33_1, hcz33_2, hcz33_3, -⟩ := c4 BKz2.out
  go_wp2_with (first | ((with_reducible refine gate_callee (f := 83) rfl ?_); refine goesL_ (some 19) rfl rfl Try.func83 (by kernel_rfl) rfl #[.agg #[.int .i64 a0_0, .int .i64 a0_1, .int .i64 a0_2, .slice A0_3 l0_3.length c0_3]] rfl (by (try simp only [bitvec_to_nat]); rfl) ?_; (with_reducible refine (impl_isImage.calls a0_0 a0_1 a0_2 _ _ l0_3 false _ ?side1 ?side2 A9.out).mono ?_); (case side1 => repeat (exact (Kd.C_below HR0_3.out HB.out))); (case side2 => exact HC0_3.out); rintro e w34 ⟨rfl, hb⟩; refine ⟨_, rfl, ?_⟩; replace BKz2 := mk (blk_below BKz2.out hb); replace BKz1 := mk (blk_below BKz1.out hb); replace BKz0 := mk (blk_below BKz0.out hb); replace HB := mk (below_step HB.out hb)))
  go_meet
  case rel => exact ⟨_, (true), (by rfl), H', ⟨by omega⟩, BKz2, BKz1, BKz0, HB⟩
 case rest =>
  clear HC5
  obtain ⟨kq, x31_4, rfl, HA, HJ4, BKz2, BKz1, BKz0, HB⟩ := hcut
  cases kq with
  | zero => exact absurd HA.out (by simp [impl_RedrawTiles.j0])
  | succ kj4 =>
   have H := HA.out
   clear HA
   simp only [impl_RedrawTiles.j0] at H
   by_cases c35 : x31_4 = true
   ·subst c35
    have H1 : (some (0, 0, 0, ([] : List Int), false)) = some (r1, r2, r3, r4, r5) := by rw [if_pos rfl] at H; exact H
    clear H
    have H := H1
    clear H1
    simp only [Option.some.injEq, Prod.mk.injEq] at H
    obtain ⟨rfl, rfl, rfl, rfl, rfl⟩ := H
    obtain ⟨hcz38_0, hcz38_1, hcz38_2, hcz38_3, hfz38_0, hfz38_1, hfz38_2, hfz38_3⟩ := c4 BKz0.out
    go_wp2
    refine bodyPost_ret (results_ct rfl _ _ gbz0 27 #[.int .i64 0, .int .i64 0, .int .i64 0, .slice none 0 0] (0, 0) _ rfl (by refine p4 (.int .i64 0) (.int .i64 0) (.int .i64 0) (.slice none 0 0) ?_; exact BKz0.out) Try.underlying27 rfl (by kernel_rfl)) rfl ?_
    exact ⟨_, by rfl, by exact Kd.R_nil _ _ _ _ _, by repeat (with_reducible first | exact HB.out | refine below_set ?_ GEz0.out)⟩
   replace c35 := Bool.eq_false_iff.mpr c35
   subst c35
   have H1 : ((impl_tileBoxes.f kj4 a1_0 a1_1 a1_2 l1_3).bind fun tz0 => (impl_RedrawTiles.l0 kj4 l2 l3 tz0 l3 (l3.length : Int) 0 a0_0 a0_1 a0_2 l0_3 a1_0 a1_1 a1_2 l1_3)) = some (r1, r2, r3, r4, r5) := by rw [if_neg (show ¬ (false = true) by decide)] at H; exact H
   clear H
   have H := H1
   clear H1
   replace H := Option.bind_eq_some_iff.mp H
   obtain ⟨tz0, A390, H⟩ := H
   replace H : (impl_RedrawTiles.l0 kj4 l2 l3 tz0 l3 (l3.length : Int) 0 a0_0 a0_1 a0_2 l0_3 a1_0 a1_1 a1_2 l1_3) = some (r1, r2, r3, r4, r5) := H
   have A39 := mk A390
   clear A390
   have H' := mk H
   clear H
   obtain ⟨hcz42_0, hcz42_1, hcz42_2, hcz42_3, hfz42_0, hfz42_1, hfz42_2, hfz42_3⟩ := c4 BKz1.out
   go_wp2_with (first | ((with_reducible refine gate_callee (f := 92) rfl ?_); refine goesL_ (some 34) rfl rfl Try.func92 (by kernel_rfl) rfl #[.agg #[.int .i64 a1_0, .int .i64 a1_1, .int .i64 a1_2, .slice A1_3 l1_3.length c1_3]] rfl (by (try simp only [bitvec_to_nat]); rfl) ?_; (with_reducible refine (impl_tileBoxes.calls kj4 a1_0 a1_1 a1_2 _ _ l1_3 tz0 _ ?side1 ?side2 A39.out).mono ?_); (case side1 => repeat (exact (Kd.C_below HR1_3.out HB.out))); (case side2 => exact HC1_3.out); rintro e w43 ⟨vz0, rfl, ho0, hb⟩; refine ⟨_, rfl, ?_⟩; have HOz3 := mk (Kd.R_lower ho0 (below_size HB.out)); replace BKz2 := mk (blk_below BKz2.out hb); replace BKz1 := mk (blk_below BKz1.out hb); replace BKz0 := mk (blk_below BKz0.out hb); replace HB := mk (below_step HB.out hb)))
   go_loopg [37] kj4 (fun kq v37 w' => ∃ (x37_2 : Int) (xz2 : Int) (xz1 : Int) (xz0 : Int), v37 = .int .i64 x37_2 ∧ Aside0 (impl_RedrawTiles.l0 kq l2 l3 tz0 l3 (l3.length : Int) x37_2 a0_0 a0_1 a0_2 l0_3 a1_0 a1_1 a1_2 l1_3 = some (r1, r2, r3, r4, r5)) ∧ Aside0 (kq ≤ kj4) ∧ Aside0 (Kd.R k47 47 w' w.heap.size (fun _ => True) vz0 tz0) ∧ Aside0 (w'.heap[gbz3]? = some (.cells #[.int .i64 a0_0, .int .i64 a0_1, .int .i64 a0_2, (.slice A0_3 l0_3.length c0_3)] 27 (0, 0))) ∧ Aside0 (w'.heap[gbz2]? = some (.cells #[.int .i64 a1_0, .int .i64 a1_1, .int .i64 a1_2, (.slice A1_3 l1_3.length c1_3)] 27 (0, 0))) ∧ Aside0 (w'.heap[gbz0]? = some (.cells #[.int .i64 xz2, .int .i64 xz1, .int .i64 xz0, (.slice none 0 0)] 27 (0, 0))) ∧ Aside0 (Below w.heap.size w w'))
   case atStart => exact ⟨(0), (0), (0), (0), (by rfl), H', ⟨Nat.le_refl _⟩, HOz3, BKz2, BKz1, BKz0, HB⟩
   case round =>
    clear H'
    obtain ⟨x37_2, xz2, xz1, xz0, rfl, HA, HK2, HO_10, BKz2, BKz1, BKz0, HB⟩ := hrel
    cases gk with
    | zero => exact absurd HA.out (by simp [impl_RedrawTiles.l0])
    | succ k2 =>
     have H := HA.out
     clear HA
     simp only [impl_RedrawTiles.l0] at H
     by_cases c44 : x37_2 < (l3.length : Int)
     ·rw [if_pos c44] at H
      have c44b0 : decide (x37_2 < (l3.length : Int)) = true := decide_eq_true c44
      clear c44
      by_cases c45 : 0 ≤ x37_2
      ·rw [if_pos c45] at H
       have c45b0 : decide (0 ≤ x37_2) = true := decide_eq_true c45
       clear c45
       by_cases c46 : x37_2 < (l3.length : Int)
       ·rw [if_pos c46] at H
        have c46b0 : decide (x37_2 < (l3.length : Int)) = true := decide_eq_true c46
        clear c46
        by_cases c47 : (rd l3 x37_2) < 0
        ·rw [if_pos c47] at H
         have c47b0 : decide ((rd l3 x37_2) < 0) = true := decide_eq_true c47
         clear c47
         simp only [Option.some.injEq, Prod.mk.injEq] at H
         obtain ⟨rfl, rfl, rfl, rfl, rfl⟩ := H
         have aC : 0 ≤ (x37_2 : Int) := of_decide_eq_true (by (with_reducible assumption))
         have aD : x37_2 < (l3.length : Int) := of_decide_eq_true (by (with_reducible assumption))
         obtain ⟨aH, aE, aA⟩ := Kd.at_int HR3.out x37_2 aC aD
         cases aE
         replace aA := bc HB.out aA
         replace aC := eq_true aC
         replace aD := eq_true aD
         obtain ⟨hcz50_0, hcz50_1, hcz50_2, hcz50_3, hfz50_0, hfz50_1, hfz50_2, hfz50_3⟩ := c4 BKz0.out
         go_wp2
         refine bodyPost_ret (results_ct rfl _ _ gbz0 27 #[.int .i64 0, .int .i64 0, .int .i64 0, .slice none 0 0] (0, 0) _ rfl (by refine p4 (.int .i64 xz2) (.int .i64 xz1) (.int .i64 xz0) (.slice none 0 0) ?_; exact BKz0.out) Try.underlying27 rfl (by kernel_rfl)) rfl ?_
         exact ⟨_, by rfl, by exact Kd.R_nil _ _ _ _ _, by repeat (with_reducible first | exact HB.out | refine below_set ?_ GEz0.out)⟩
        rw [if_neg c47] at H
        have c47b0 : decide ((rd l3 x37_2) < 0) = false := decide_eq_false c47
        clear c47
        by_cases c51 : (rd l3 x37_2) ≥ (tz0.length : Int)
        ·rw [if_pos c51] at H
         have c51b0 : decide ((tz0.length : Int) ≤ (rd l3 x37_2)) = true := decide_eq_true c51
         clear c51
         simp only [Option.some.injEq, Prod.mk.injEq] at H
         obtain ⟨rfl, rfl, rfl, rfl, rfl⟩ := H
         have aC : 0 ≤ (x37_2 : Int) := of_decide_eq_true (by (with_reducible assumption))
         have aD : x37_2 < (l3.length : Int) := of_decide_eq_true (by (with_reducible assumption))
         obtain ⟨aH, aE, aA⟩ := Kd.at_int HR3.out x37_2 aC aD
         cases aE
         replace aA := bc HB.out aA
         replace aC := eq_true aC
         replace aD := eq_true aD
         obtain ⟨Ao52, co52, eo52⟩ := Kd.R_slice HO_10.out
         subst eo52
         obtain ⟨hcz55_0, hcz55_1, hcz55_2, hcz55_3, hfz55_0, hfz55_1, hfz55_2, hfz55_3⟩ := c4 BKz0.out
         go_wp2
         refine bodyPost_ret (results_ct rfl _ _ gbz0 27 #[.int .i64 0, .int .i64 0, .int .i64 0, .slice none 0 0] (0, 0) _ rfl (by refine p4 (.int .i64 xz2) (.int .i64 xz1) (.int .i64 xz0) (.slice none 0 0) ?_; exact BKz0.out) Try.underlying27 rfl (by kernel_rfl)) rfl ?_
         exact ⟨_, by rfl, by exact Kd.R_nil _ _ _ _ _, by repeat (with_reducible first | exact HB.out | refine below_set ?_ GEz0.out)⟩
        rw [if_neg c51] at H
        have c51b0 : decide ((tz0.length : Int) ≤ (rd l3 x37_2)) = false := decide_eq_false c51
        clear c51
        by_cases c56 : x37_2 > 0
        ·rw [if_pos c56] at H
         have c56b0 : decide (0 < x37_2) = true := decide_eq_true c56
         clear c56
         obtain ⟨ji57, hji57⟩ : ∃ j_ : Int, (wrap64 (x37_2 - 1)) = j_ := ⟨_, rfl⟩
         replace H : (if 0 ≤ ji57 then (if ji57 < (l3.length : Int) then (if (rd l3 ji57) ≥ (rd l3 x37_2) then (some (0, 0, 0, ([] : List Int), false)) else (impl_RedrawTiles.l0 k2 l2 l3 tz0 l3 (l3.length : Int) (wrap64 (x37_2 + 1)) a0_0 a0_1 a0_2 l0_3 a1_0 a1_1 a1_2 l1_3)) else none) else none) = some (r1, r2, r3, r4, r5) := by (rw [hji57] at H; exact H)
         have hji57w : (IntKind.i64.wrap (x37_2 - 1)) = ji57 := (i64_w _).trans hji57
         by_cases c58 : 0 ≤ (ji57)
         ·rw [if_pos c58] at H
          have c58b0 : decide (0 ≤ ji57) = true := decide_eq_true c58
          clear c58
          by_cases c59 : ji57 < (l3.length : Int)
          ·rw [if_pos c59] at H
           have c59b0 : decide (ji57 < (l3.length : Int)) = true := decide_eq_true c59
           clear c59
           by_cases c60 : (rd l3 ji57) ≥ (rd l3 x37_2)
           ·rw [if_pos c60] at H
            have c60b0 : decide ((rd l3 x37_2) ≤ (rd l3 ji57)) = true := decide_eq_true c60
            clear c60
            simp only [Option.some.injEq, Prod.mk.injEq] at H
            obtain ⟨rfl, rfl, rfl, rfl, rfl⟩ := H
            have aC : 0 ≤ (x37_2 : Int) := of_decide_eq_true (by (with_reducible assumption))
            have aD : x37_2 < (l3.length : Int) := of_decide_eq_true (by (with_reducible assumption))
            obtain ⟨aH, aE, aA⟩ := Kd.at_int HR3.out x37_2 aC aD
            cases aE
            replace aA := bc HB.out aA
            replace aC := eq_true aC
            replace aD := eq_true aD
            obtain ⟨Ao61, co61, eo61⟩ := Kd.R_slice HO_10.out
            subst eo61
            have aI : 0 ≤ (ji57 : Int) := of_decide_eq_true (by (with_reducible assumption))
            have aJ : ji57 < (l3.length : Int) := of_decide_eq_true (by (with_reducible assumption))
            obtain ⟨aK, aN, aG⟩ := Kd.at_int HR3.out ji57 aI aJ
            obtain rfl : aH = aK := (by injection aN)
            replace aG := bc HB.out aG
            replace aI := eq_true aI
            replace aJ := eq_true aJ
            obtain ⟨hcz64_0, hcz64_1, hcz64_2, hcz64_3, hfz64_0, hfz64_1, hfz64_2, hfz64_3⟩ := c4 BKz0.out
            go_wp2
            refine bodyPost_ret (results_ct rfl _ _ gbz0 27 #[.int .i64 0, .int .i64 0, .int .i64 0, .slice none 0 0] (0, 0) _ rfl (by refine p4 (.int .i64 xz2) (.int .i64 xz1) (.int .i64 xz0) (.slice none 0 0) ?_; exact BKz0.out) Try.underlying27 rfl (by kernel_rfl)) rfl ?_
            exact ⟨_, by rfl, by exact Kd.R_nil _ _ _ _ _, by repeat (with_reducible first | exact HB.out | refine below_set ?_ GEz0.out)⟩
           rw [if_neg c60] at H
           have c60b0 : decide ((rd l3 x37_2) ≤ (rd l3 ji57)) = false := decide_eq_false c60
           clear c60
           have H' := mk H
           clear H
           have aC : 0 ≤ (x37_2 : Int) := of_decide_eq_true (by (with_reducible assumption))
           have aD : x37_2 < (l3.length : Int) := of_decide_eq_true (by (with_reducible assumption))
           obtain ⟨aH, aE, aA⟩ := Kd.at_int HR3.out x37_2 aC aD
           cases aE
           replace aA := bc HB.out aA
           replace aC := eq_true aC
           replace aD := eq_true aD
           obtain ⟨Ao65, co65, eo65⟩ := Kd.R_slice HO_10.out
           subst eo65
           have aI : 0 ≤ (ji57 : Int) := of_decide_eq_true (by (with_reducible assumption))
           have aJ : ji57 < (l3.length : Int) := of_decide_eq_true (by (with_reducible assumption))
           obtain ⟨aK, aN, aG⟩ := Kd.at_int HR3.out ji57 aI aJ
           obtain rfl : aH = aK := (by injection aN)
           replace aG := bc HB.out aG
           replace aI := eq_true aI
           replace aJ := eq_true aJ
           go_wp2
           go_roundg k2
           case measure => have := HJ4.out; have := HK2.out; omega
           case rel => exact ⟨(wrap64 (x37_2 + 1)), (xz2), (xz1), (xz0), (by rfl), H', ⟨by have := HJ4.out; have := HK2.out; omega⟩, HO_10, BKz2, BKz1, BKz0, HB⟩
          rw [if_neg c59] at H
          exact absurd H (by simp)
         rw [if_neg c58] at H
         exact absurd H (by simp)
        rw [if_neg c56] at H
        have c56b0 : decide (0 < x37_2) = false := decide_eq_false c56
        clear c56
        have H' := mk H
        clear H
        have aC : 0 ≤ (x37_2 : Int) := of_decide_eq_true (by (with_reducible assumption))
        have aD : x37_2 < (l3.length : Int) := of_decide_eq_true (by (with_reducible assumption))
        obtain ⟨aH, aE, aA⟩ := Kd.at_int HR3.out x37_2 aC aD
        cases aE
        replace aA := bc HB.out aA
        replace aC := eq_true aC
        replace aD := eq_true aD
        obtain ⟨Ao66, co66, eo66⟩ := Kd.R_slice HO_10.out
        subst eo66
        go_wp2
        go_roundg k2
        case measure => have := HJ4.out; have := HK2.out; omega
        case rel => exact ⟨(wrap64 (x37_2 + 1)), (xz2), (xz1), (xz0), (by rfl), H', ⟨by have := HJ4.out; have := HK2.out; omega⟩, HO_10, BKz2, BKz1, BKz0, HB⟩
       rw [if_neg c46] at H
       exact absurd H (by simp)
      rw [if_neg c45] at H
      exact absurd H (by simp)
     rw [if_neg c44] at H
     have c44b0 : decide (x37_2 < (l3.length : Int)) = false := decide_eq_false c44
     clear c44
     replace H := Option.bind_eq_some_iff.mp H
     obtain ⟨⟨tz1, tz2, tz4, tz3, tz12⟩, A670, H⟩ := H
     dsimp only at H
     have A67 := mk A670
     clear A670
     by_cases c68 : tz12 = true
     ·subst c68
      have H1 : (impl_RedrawTiles.l1 k2 tz0 (([] : List S47)) l3 (l3.length : Int) 0 a0_0 a0_1 a0_2 l0_3 tz1 tz2 tz4 tz3) = some (r1, r2, r3, r4, r5) := by rw [if_pos rfl] at H; exact H
      clear H
      have H := H1
      clear H1
      obtain ⟨yz0, hyz0⟩ : ∃ y_ : List (S47), y_ = (([] : List S47)) := ⟨_, rfl⟩
      replace H : (impl_RedrawTiles.l1 k2 tz0 yz0 l3 (l3.length : Int) 0 a0_0 a0_1 a0_2 l0_3 tz1 tz2 tz4 tz3) = some (r1, r2, r3, r4, r5) := by (rw [hyz0]; with_reducible exact H)
      have Nyz0 := mk hyz0
      clear hyz0
      have H' := mk H
      clear H
      obtain ⟨hcz71_0, hcz71_1, hcz71_2, hcz71_3, hfz71_0, hfz71_1, hfz71_2, hfz71_3⟩ := c4 BKz1.out
      go_wp2_with (first | ((with_reducible refine gate_callee (f := 119) rfl ?_); refine goesL_ (some 68) rfl rfl Try.func119 (by kernel_rfl) rfl #[.agg #[.int .i64 a1_0, .int .i64 a1_1, .int .i64 a1_2, .slice A1_3 l1_3.length c1_3], .slice A2 l2.length c2] rfl (by (try simp only [bitvec_to_nat]); rfl) ?_; (with_reducible refine (impl_flatten.calls k2 a1_0 a1_1 a1_2 _ _ l1_3 _ _ l2 tz1 tz2 tz4 tz3 true _ ?side1 ?side2 ?side3 ?side4 A67.out).mono ?_); (case side1 => repeat (exact (Kd.C_below HR1_3.out HB.out))); (case side2 => exact HC1_3.out); (case side3 => repeat (exact (Kd.C_below HR2.out HB.out))); (case side4 => exact HC2.out); rintro e w72 ⟨vz1, rfl, ho0, hb⟩; refine ⟨_, rfl, ?_⟩; replace HO_10 := mk (Kd.R_below HO_10.out hb); have HOz1 := mk (Kd.R_lower ho0 (below_size HB.out)); replace BKz2 := mk (blk_below BKz2.out hb); replace BKz1 := mk (blk_below BKz1.out hb); replace BKz0 := mk (blk_below BKz0.out hb); replace HB := mk (below_step HB.out hb)) | ((with_reducible refine gate_dst (N := 13) rfl ?_); (try (refine gate_guard (by rfl) ?_; dsimp only)); refine box_event (by rfl) (N := 13) (by rfl) (cs := #[.int .i64 0, .int .i64 0, .int .i64 0, .slice none 0 0]) (t := 27) (by go_simp; done) ?_; intro gbz1 hg w73 hbox hb; replace HO_10 := mk (Kd.R_below HO_10.out hb); replace HOz1 := mk (Kd.R_below HOz1.out hb); have BKz3 := mk (hbox); have GEz1 := mk ((by rw [hg]; exact (below_size HB.out) : w.heap.size ≤ gbz1)); replace HB := mk (below_step HB.out hb); have NBz1 := mk ((by rw [hg]; exact Nat.ne_of_lt (blk_lt BKz2.out) : gbz3 ≠ gbz1)); replace BKz2 := mk (blk_below BKz2.out hb); have NBz2 := mk ((by rw [hg]; exact Nat.ne_of_lt (blk_lt BKz1.out) : gbz2 ≠ gbz1)); replace BKz1 := mk (blk_below BKz1.out hb); have NBz0 := mk ((by rw [hg]; exact Nat.ne_of_lt (blk_lt BKz0.out) : gbz0 ≠ gbz1)); replace BKz0 := mk (blk_below BKz0.out hb); clear hb hbox hg; obtain ⟨hcz77_0, hcz77_1, hcz77_2, hcz77_3, hfz77_0, hfz77_1, hfz77_2, hfz77_3⟩ := c4 BKz3.out; obtain ⟨Ao78, co78, eo78⟩ := Kd.R_slice HOz1.out; subst eo78) | ((with_reducible refine gate_dst (N := 74) rfl ?_); (try (refine gate_guard (by rfl) ?_; dsimp only)); refine Kd.R_lit k47 _ 47 ?hg (N := 74) ?hd (xs := ([] : List S47)) (inner := []) (ok := fun _ => True) (okp := fun _ => True) ?hr ?hp (fun _ hk => hk) trivial (Below.refl _ _) (Nat.le_refl _) (by simp) ?_; (case hd => rfl); (case hg => rfl); (case hr => (go_simp; done)); (case hp => exact (Reps.none _ _)); intro vz2 w79 ho80 hb hg_ hnew_; clear hg_ hnew_; (rw [← Nyz0.out] at ho80); replace HOz1 := mk (Kd.R_below (by exact (Kd.R_mono (R4 (Kd.R_types HOz1.out BKz3.out (by decide)) (.int .i64 tz1) (.int .i64 tz2) (.int .i64 tz4) (.slice Ao78 tz3.length co78)) (fun _ h_ => h_.1))) hb); have HOz4 := mk (Kd.R_lower (Kd.R_new' ho80 (Kd.R_lt (by exact (Kd.R_mono (R4 (Kd.R_types HO_10.out BKz3.out (by decide)) (.int .i64 tz1) (.int .i64 tz2) (.int .i64 tz4) (.slice Ao78 tz3.length co78)) (fun _ h_ => h_.1))))) (below_size (by repeat (with_reducible first | exact HB.out | refine below_set ?_ GEz1.out)))); replace HO_10 := mk (Kd.R_elder' (by exact (Kd.R_mono (R4 (Kd.R_types HO_10.out BKz3.out (by decide)) (.int .i64 tz1) (.int .i64 tz2) (.int .i64 tz4) (.slice Ao78 tz3.length co78)) (fun _ h_ => h_.1))) (Kd.R_base ho80) hb); replace BKz2 := mk (blk_below (g := gbz3) (o := .cells #[.int .i64 a0_0, .int .i64 a0_1, .int .i64 a0_2, .slice A0_3 l0_3.length c0_3] 27 (0, 0)) (by refine f4 ?_ NBz1.out; exact BKz2.out) hb); replace BKz1 := mk (blk_below (g := gbz2) (o := .cells #[.int .i64 a1_0, .int .i64 a1_1, .int .i64 a1_2, .slice A1_3 l1_3.length c1_3] 27 (0, 0)) (by refine f4 ?_ NBz2.out; exact BKz1.out) hb); replace BKz0 := mk (blk_below (g := gbz0) (o := .cells #[.int .i64 xz2, .int .i64 xz1, .int .i64 xz0, .slice none 0 0] 27 (0, 0)) (by refine f4 ?_ NBz0.out; exact BKz0.out) hb); replace BKz3 := mk (blk_below (g := gbz1) (o := .cells #[.int .i64 tz1, .int .i64 tz2, .int .i64 tz4, .slice Ao78 tz3.length co78] 27 (0, 0)) (by refine p4 (.int .i64 0) (.int .i64 0) (.int .i64 0) (.slice none 0 0) ?_; exact BKz3.out) hb); replace HB := mk (below_step (by repeat (with_reducible first | exact HB.out | refine below_set ?_ GEz1.out)) hb); clear hb ho80))
      go_loopg [15, 77] k2 (fun kq v15 v77 w' => ∃ (x15_3 : List S47) (x77_3 : Int), v77 = .int .i64 x77_3 ∧ Aside0 (impl_RedrawTiles.l1 kq tz0 x15_3 l3 (l3.length : Int) x77_3 a0_0 a0_1 a0_2 l0_3 tz1 tz2 tz4 tz3 = some (r1, r2, r3, r4, r5)) ∧ Aside0 (kq ≤ k2) ∧ Aside0 (Kd.R k47 47 w' w.heap.size (fun k_ => some k_ ≠ (v15 : Value).ownBlock) vz0 tz0) ∧ Aside0 (Kd.R k47 47 w' w.heap.size (fun k_ => some k_ ≠ (vz0 : Value).ownBlock) v15 x15_3) ∧ Aside0 (Kd.R (Kd.int .i64) 3 w' w.heap.size (fun _ => True) (.slice Ao78 tz3.length co78) tz3) ∧ Aside0 (w'.heap[gbz3]? = some (.cells #[.int .i64 a0_0, .int .i64 a0_1, .int .i64 a0_2, (.slice A0_3 l0_3.length c0_3)] 27 (0, 0))) ∧ Aside0 (w'.heap[gbz2]? = some (.cells #[.int .i64 a1_0, .int .i64 a1_1, .int .i64 a1_2, (.slice A1_3 l1_3.length c1_3)] 27 (0, 0))) ∧ Aside0 (w'.heap[gbz0]? = some (.cells #[.int .i64 xz2, .int .i64 xz1, .int .i64 xz0, (.slice none 0 0)] 27 (0, 0))) ∧ Aside0 (w'.heap[gbz1]? = some (.cells #[.int .i64 tz1, .int .i64 tz2, .int .i64 tz4, (.slice Ao78 tz3.length co78)] 27 (0, 0))) ∧ Aside0 (Below w.heap.size w w'))
      case atStart => exact ⟨(yz0), (0), (by rfl), H', ⟨Nat.le_refl _⟩, ⟨by exact Kd.R_mono HO_10.out (fun _ hk => hk.2)⟩, ⟨by exact Kd.R_mono HOz4.out (fun _ hk => hk.2)⟩, HOz1, BKz2, BKz1, BKz0, BKz3, HB⟩
      case round =>
       clear H'
       obtain ⟨x15_3, x77_3, rfl, HA, HK3, HO_10, HO_15, HOz0, BKz2, BKz1, BKz0, BKz3, HB⟩ := hrel
       cases gk with
       | zero => exact absurd HA.out (by simp [impl_RedrawTiles.l1])
       | succ k3 =>
        have H := HA.out
        clear HA
        simp only [impl_RedrawTiles.l1] at H
        by_cases c81 : x77_3 < (l3.length : Int)
        ·rw [if_pos c81] at H
         have c81b0 : decide (x77_3 < (l3.length : Int)) = true := decide_eq_true c81
         clear c81
         by_cases c82 : 0 ≤ x77_3
         ·rw [if_pos c82] at H
          have c82b0 : decide (0 ≤ x77_3) = true := decide_eq_true c82
          clear c82
          by_cases c83 : x77_3 < (l3.length : Int)
          ·rw [if_pos c83] at H
           have c83b0 : decide (x77_3 < (l3.length : Int)) = true := decide_eq_true c83
           clear c83
           by_cases c84 : 0 ≤ (rd l3 x77_3)
           ·rw [if_pos c84] at H
            have c84b0 : decide (0 ≤ (rd l3 x77_3)) = true := decide_eq_true c84
            clear c84
            by_cases c85 : (rd l3 x77_3) < (tz0.length : Int)
            ·rw [if_pos c85] at H
             have c85b0 : decide ((rd l3 x77_3) < (tz0.length : Int)) = true := decide_eq_true c85
             clear c85
             by_cases c86 : x15_3.length < 4398046511104
             ·rw [if_pos c86] at H
              have LMc86 := mk c86
              clear c86
              obtain ⟨yz1, hyz1⟩ : ∃ y_ : List (S47), y_ = (x15_3 ++ [(⟨(rd_T47 tz0 (rd l3 x77_3)).f0, (rd_T47 tz0 (rd l3 x77_3)).f1, (rd_T47 tz0 (rd l3 x77_3)).f2, (rd_T47 tz0 (rd l3 x77_3)).f3⟩ : S47)]) := ⟨_, rfl⟩
              replace H : (impl_RedrawTiles.l1 k3 tz0 yz1 l3 (l3.length : Int) (wrap64 (x77_3 + 1)) a0_0 a0_1 a0_2 l0_3 tz1 tz2 tz4 tz3) = some (r1, r2, r3, r4, r5) := by (rw [hyz1]; with_reducible exact H)
              have Nyz1 := mk hyz1
              clear hyz1
              have H' := mk H
              clear H
              have aQ : 0 ≤ (x77_3 : Int) := of_decide_eq_true (by (with_reducible assumption))
              have aR : x77_3 < (l3.length : Int) := of_decide_eq_true (by (with_reducible assumption))
              obtain ⟨bC, aW, aM⟩ := Kd.at_int HR3.out x77_3 aQ aR
              cases aW
              replace aM := bc HB.out aM
              replace aQ := eq_true aQ
              replace aR := eq_true aR
              obtain ⟨Ao87, co87, eo87⟩ := Kd.R_slice HO_10.out
              subst eo87
              have aT : 0 ≤ ((rd l3 x77_3) : Int) := of_decide_eq_true (by (with_reducible assumption))
              have aU : (rd l3 x77_3) < (tz0.length : Int) := of_decide_eq_true (by (with_reducible assumption))
              obtain ⟨aV, aX, aY, aZ, bA, bB⟩ := at_T47 (Kd.R_reads' HO_10.out).2.2 (rd l3 x77_3) aT aU
              cases aX
              replace aT := eq_true aT
              replace aU := eq_true aU
              go_wp2_with (first | ((with_reducible refine gate_builtin (b := .append) (xs := #[.tmp 81, .tmp 86]) rfl ?_); (try (refine gate_guard (by rfl) ?_; dsimp only)); at_builtin; refine Kd.R_append k47 (w0 := w) w.heap.size rfl (.tmp 81) (.tmp 86) 36 47 (.agg #[(.int .i64 0), (.int .i64 0), (.int .i64 0), (.int .i64 0)]) 32 rfl Try.underlying36 info47 rfl (by decide) (by omega) u15 x15_3 (⟨(rd_T47 tz0 (rd l3 x77_3)).f0, (rd_T47 tz0 (rd l3 x77_3)).f1, (rd_T47 tz0 (rd l3 x77_3)).f2, (rd_T47 tz0 (rd l3 x77_3)).f3⟩ : S47) [.int .i64 ((rd_T47 tz0 (rd l3 x77_3)).f0), .int .i64 ((rd_T47 tz0 (rd l3 x77_3)).f1), .int .i64 ((rd_T47 tz0 (rd l3 x77_3)).f2), .int .i64 ((rd_T47 tz0 (rd l3 x77_3)).f3)] (fun k_ => some k_ ≠ (.slice (some aV) tz0.length co87 : Value).ownBlock) (fun _ => False) rfl rfl ?aP (fun _ hk => hk.elim) ?aF ?aO ?aB ?aS ?aL ?_; (case aP => exact k47_mkM _ _ _ (⟨(rd_T47 tz0 (rd l3 x77_3)).f0, (rd_T47 tz0 (rd l3 x77_3)).f1, (rd_T47 tz0 (rd l3 x77_3)).f2, (rd_T47 tz0 (rd l3 x77_3)).f3⟩ : S47)); (case aB => exact HB.out); (case aF => exact (fun k_ hk => Kd.fresh' (Kd.R_lt HO_10.out) k_ hk)); (case aO => exact HO_15.out); (case aS => exact (below_size HB.out)); (case aL => have := LMc86.out; omega); intro vz3 w88 ho hb hg hat; rw [← Nyz1.out] at ho; have n0_ := mk (Kd.R_after (ok := (fun _ => True)) (by exact Kd.R_mono HO_10.out (fun _ hk => ⟨trivial, hk⟩)) hg hat); have n1_ := mk (Kd.R_over' HOz0.out (Kd.R_typed HO_15.out) (by decide) hg); have n2_ := mk (blk_grown (g := gbz3) (o := .cells #[.int .i64 a0_0, .int .i64 a0_1, .int .i64 a0_2, .slice A0_3 l0_3.length c0_3] 27 (0, 0)) BKz2.out hg (Kd.R_ne HO_15.out BKz2.out (by decide))); have n3_ := mk (blk_grown (g := gbz2) (o := .cells #[.int .i64 a1_0, .int .i64 a1_1, .int .i64 a1_2, .slice A1_3 l1_3.length c1_3] 27 (0, 0)) BKz1.out hg (Kd.R_ne HO_15.out BKz1.out (by decide))); have n4_ := mk (blk_grown (g := gbz0) (o := .cells #[.int .i64 xz2, .int .i64 xz1, .int .i64 xz0, .slice none 0 0] 27 (0, 0)) BKz0.out hg (Kd.R_ne HO_15.out BKz0.out (by decide))); have n5_ := mk (blk_grown (g := gbz1) (o := .cells #[.int .i64 tz1, .int .i64 tz2, .int .i64 tz4, .slice Ao78 tz3.length co78] 27 (0, 0)) BKz3.out hg (Kd.R_ne HO_15.out BKz3.out (by decide))); have n6_ := mk (hb); have n7_ := mk (ho); clear HO_10; clear HOz0; clear BKz2; clear BKz1; clear BKz0; clear BKz3; clear HB; clear HO_15; have HO_10 := n0_; have HOz0 := n1_; have BKz2 := n2_; have BKz1 := n3_; have BKz0 := n4_; have BKz3 := n5_; have HB := n6_; have HOz5 := n7_; clear ho hb hg hat))
              go_roundg k3
              case measure => have := HJ4.out; have := HK2.out; have := HK3.out; omega
              case rel => exact ⟨(yz1), (wrap64 (x77_3 + 1)), (by rfl), H', ⟨by have := HJ4.out; have := HK2.out; have := HK3.out; omega⟩, ⟨by exact Kd.R_mono HO_10.out (fun _ hk => hk.2)⟩, HOz5, HOz0, BKz2, BKz1, BKz0, BKz3, HB⟩
             rw [if_neg c86] at H
             exact absurd H (by simp)
            rw [if_neg c85] at H
            exact absurd H (by simp)
           rw [if_neg c84] at H
           exact absurd H (by simp)
          rw [if_neg c83] at H
          exact absurd H (by simp)
         rw [if_neg c82] at H
         exact absurd H (by simp)
        rw [if_neg c81] at H
        have c81b0 : decide (x77_3 < (l3.length : Int)) = false := decide_eq_false c81
        clear c81
        replace H := Option.bind_eq_some_iff.mp H
        obtain ⟨⟨tz7, tz9, tz10, tz11⟩, A890, H⟩ := H
        dsimp only at H
        have A89 := mk A890
        clear A890
        simp only [Option.some.injEq, Prod.mk.injEq] at H
        obtain ⟨rfl, rfl, rfl, rfl, rfl⟩ := H
        obtain ⟨hcz93_0, hcz93_1, hcz93_2, hcz93_3, -⟩ := c4 BKz2.out
        obtain ⟨hcz96_0, hcz96_1, hcz96_2, hcz96_3, -⟩ := c4 BKz3.out
        obtain ⟨Ao97, co97, eo97⟩ := Kd.R_slice HO_15.out
        subst eo97
        go_wp2_with (first | ((with_reducible refine gate_callee (f := 125) rfl ?_); refine goesL_ (some 92) rfl rfl Try.func125 (by kernel_rfl) rfl #[.agg #[.int .i64 a0_0, .int .i64 a0_1, .int .i64 a0_2, .slice A0_3 l0_3.length c0_3], .agg #[.int .i64 tz1, .int .i64 tz2, .int .i64 tz4, .slice Ao78 tz3.length co78], .slice Ao97 x15_3.length co97] rfl (by (try simp only [bitvec_to_nat]); rfl) ?_; (with_reducible refine (impl_patched.calls a0_0 a0_1 a0_2 _ _ l0_3 tz1 tz2 tz4 _ _ tz3 _ _ x15_3 tz7 tz9 tz10 tz11 _ ?side1 ?side2 ?side3 ?side4 ?side5 ?side6 A89.out).mono ?_); (case side1 => repeat (exact (Kd.C_below HR0_3.out HB.out))); (case side2 => exact HC0_3.out); (case side3 => repeat (exact (Kd.R_reads' HOz0.out).2.2)); (case side4 => exact (Kd.R_reads' HOz0.out).2.1); (case side5 => repeat (exact (Kd.R_reads' HO_15.out).2.2)); (case side6 => exact (Kd.R_reads' HO_15.out).2.1); rintro e w98 ⟨vz4, rfl, ho0, hb⟩; refine ⟨_, rfl, ?_⟩; have n2_ := mk (Kd.R_elder' HOz0.out (Kd.R_base ho0) hb); have n3_ := mk (Kd.R_lower (Kd.R_new' ho0 (Kd.R_lt HOz0.out)) (below_size HB.out)); have n6_ := mk (blk_below BKz0.out hb); have n8_ := mk (below_step HB.out hb); clear HO_10; clear HO_15; clear HOz0; clear BKz2; clear BKz1; clear BKz0; clear BKz3; clear HB; have HOz0 := n2_; have HOz2 := n3_; have BKz0 := n6_; have HB := n8_; obtain ⟨hcz100_0, hcz100_1, hcz100_2, hcz100_3, hfz100_0, hfz100_1, hfz100_2, hfz100_3⟩ := c4 BKz0.out; obtain ⟨Ao101, co101, eo101⟩ := Kd.R_slice HOz2.out; subst eo101))
        refine bodyPost_ret (results_ct rfl _ _ gbz0 27 #[.int .i64 tz7, .int .i64 tz9, .int .i64 tz10, .slice Ao101 tz11.length co101] (0, 0) _ rfl (by refine p4 (.int .i64 xz2) (.int .i64 xz1) (.int .i64 xz0) (.slice none 0 0) ?_; exact BKz0.out) Try.underlying27 rfl (by kernel_rfl)) rfl ?_
        exact ⟨_, by rfl, by exact Kd.R_mono (R4 (Kd.R_types HOz2.out BKz0.out (by decide)) (.int .i64 tz7) (.int .i64 tz9) (.int .i64 tz10) (.slice Ao101 tz11.length co101)) (fun _ hk => trivial), by repeat (with_reducible first | exact HB.out | refine below_set ?_ GEz0.out)⟩
     replace c68 := Bool.eq_false_iff.mpr c68
     subst c68
     have H1 : (some (0, 0, 0, ([] : List Int), false)) = some (r1, r2, r3, r4, r5) := by rw [if_neg (show ¬ (false = true) by decide)] at H; exact H
     clear H
     have H := H1
     clear H1
     simp only [Option.some.injEq, Prod.mk.injEq] at H
     obtain ⟨rfl, rfl, rfl, rfl, rfl⟩ := H
     obtain ⟨hcz104_0, hcz104_1, hcz104_2, hcz104_3, -⟩ := c4 BKz1.out
     go_wp2_with (first | ((with_reducible refine gate_callee (f := 119) rfl ?_); refine goesL_ (some 68) rfl rfl Try.func119 (by kernel_rfl) rfl #[.agg #[.int .i64 a1_0, .int .i64 a1_1, .int .i64 a1_2, .slice A1_3 l1_3.length c1_3], .slice A2 l2.length c2] rfl (by (try simp only [bitvec_to_nat]); rfl) ?_; (with_reducible refine (impl_flatten.calls k2 a1_0 a1_1 a1_2 _ _ l1_3 _ _ l2 tz1 tz2 tz4 tz3 false _ ?side1 ?side2 ?side3 ?side4 A67.out).mono ?_); (case side1 => repeat (exact (Kd.C_below HR1_3.out HB.out))); (case side2 => exact HC1_3.out); (case side3 => repeat (exact (Kd.C_below HR2.out HB.out))); (case side4 => exact HC2.out); rintro e w105 ⟨vz1, rfl, ho0, hb⟩; refine ⟨_, rfl, ?_⟩; replace HO_10 := mk (Kd.R_below HO_10.out hb); have HOz1 := mk (Kd.R_lower ho0 (below_size HB.out)); replace BKz2 := mk (blk_below BKz2.out hb); replace BKz1 := mk (blk_below BKz1.out hb); replace BKz0 := mk (blk_below BKz0.out hb); replace HB := mk (below_step HB.out hb)) | ((with_reducible refine gate_dst (N := 13) rfl ?_); (try (refine gate_guard (by rfl) ?_; dsimp only)); refine box_event (by rfl) (N := 13) (by rfl) (cs := #[.int .i64 0, .int .i64 0, .int .i64 0, .slice none 0 0]) (t := 27) (by go_simp; done) ?_; intro gbz1 hg w106 hbox hb; have n1_ := mk (Kd.R_below HOz1.out hb); have n4_ := mk (blk_below BKz0.out hb); have n5_ := mk (below_step HB.out hb); have n6_ := mk (hbox); have n8_ := mk ((by rw [hg]; exact (below_size HB.out) : w.heap.size ≤ gbz1)); have n13_ := mk ((by rw [hg]; exact Nat.ne_of_lt (blk_lt BKz0.out) : gbz0 ≠ gbz1)); clear HO_10; clear HOz1; clear BKz2; clear BKz1; clear BKz0; clear HB; have HOz1 := n1_; have BKz0 := n4_; have HB := n5_; have BKz3 := n6_; have GEz1 := n8_; have NBz0 := n13_; clear hb hbox hg; have hnc109 := NBz0.out; obtain ⟨hcz110_0, hcz110_1, hcz110_2, hcz110_3, hfz110_0, hfz110_1, hfz110_2, hfz110_3⟩ := c4 BKz3.out; obtain ⟨Ao111, co111, eo111⟩ := Kd.R_slice HOz1.out; subst eo111; have hnb112 := NBz4.out; have hnc112 := NBz3.out; obtain ⟨hcz113_0, hcz113_1, hcz113_2, hcz113_3, hfz113_0, hfz113_1, hfz113_2, hfz113_3⟩ := c4 BKz0.out))
     refine bodyPost_ret (results_ct rfl _ _ gbz0 27 #[.int .i64 0, .int .i64 0, .int .i64 0, .slice none 0 0] (0, 0) _ rfl (by refine p4 (.int .i64 xz2) (.int .i64 xz1) (.int .i64 xz0) (.slice none 0 0) ?_; refine f4 ?_ NBz0.out; exact BKz0.out) Try.underlying27 rfl (by kernel_rfl)) rfl ?_
     exact ⟨_, by rfl, by exact Kd.R_nil _ _ _ _ _, by repeat (with_reducible first | exact HB.out | refine below_set ?_ GEz0.out | refine below_set ?_ GEz1.out)⟩


mutual
def laws_FnRedrawTiles.j0 : Nat → List S55 → Bool → Bool → Bool → Int → Int → Int → List Int → Int → Int → Int → List Int → Int → Int → Int → List Int → Int → Int → Int → List Int → Option (Bool)
 | 0, _, _, _, _, _, _, _, _, _, _, _, _, _, _, _, _, _, _, _, _ => none
 | k + 1, x5, x8, x10, x57, xz4, xz5, xz6, xz7, xz0, xz1, xz2, xz3, xz8, xz9, xz10, xz11, xz12, xz13, xz14, xz15 => if x57 = true then ((laws_equalImage.f k xz8 xz9 xz10 xz11 xz12 xz13 xz14 xz15).bind fun tz36 => (if tz36 = true then (some (x8 == x10)) else (some false))) else (laws_FnRedrawTiles.l0 k x5 ([] : List Int) 0 xz4 xz5 xz6 xz7 xz0 xz1 xz2 xz3)
def laws_FnRedrawTiles.l0 : Nat → List S55 → List Int → Int → Int → Int → Int → List Int → Int → Int → Int → List Int → Option (Bool)
 | 0, _, _, _, _, _, _, _, _, _, _, _ => none
 | k + 1, x5, x11, x12, xz4, xz5, xz6, xz7, xz0, xz1, xz2, xz3 => (impl_TileBoxes.f k xz0 xz1 xz2 xz3).bind fun tz35 => (if x12 < (tz35.length : Int) then (if x11.length < 17592186044416 then (laws_FnRedrawTiles.l0 k x5 (x11 ++ [x12]) (wrap64 (x12 + 1)) xz4 xz5 xz6 xz7 xz0 xz1 xz2 xz3) else none) else ((impl_RedrawTiles.f k xz4 xz5 xz6 xz7 xz0 xz1 xz2 xz3 x5 x11).bind fun btz5 => ((impl_FlattenLayers.f k xz0 xz1 xz2 xz3 x5).bind fun btz4 => ((impl_RedrawTiles.f k xz4 xz5 xz6 xz7 xz0 xz1 xz2 xz3 x5 ([] : List Int)).bind fun btz3 => (if btz5.2.2.2.2 = true then (if btz4.2.2.2.2 = true then ((laws_equalImage.f k btz5.1 btz5.2.1 btz5.2.2.1 btz5.2.2.2.1 btz4.1 btz4.2.1 btz4.2.2.1 btz4.2.2.2.1).bind fun tz33 => (if tz33 = true then (if btz3.2.2.2.2 = true then ((laws_equalImage.f k btz3.1 btz3.2.1 btz3.2.2.1 btz3.2.2.2.1 xz4 xz5 xz6 xz7).bind fun tz31 => (some tz31)) else (some false)) else (some false))) else (some false)) else (some false))))))
end
def laws_FnRedrawTiles.f (k : Nat) (l0 : List Int) : Option Bool := if (l0.length : Int) > 1048576 then (some true) else ((spec_DrawRedrawTiles.f k l0).bind fun btz0 => ((impl_RedrawTiles.f k btz0.1 btz0.2.1 btz0.2.2.1 btz0.2.2.2.1 btz0.2.2.2.2.1 btz0.2.2.2.2.2.1 btz0.2.2.2.2.2.2.1 btz0.2.2.2.2.2.2.2.1 btz0.2.2.2.2.2.2.2.2.1 btz0.2.2.2.2.2.2.2.2.2).bind fun btz2 => ((spec_RedrawTiles.f k btz0.1 btz0.2.1 btz0.2.2.1 btz0.2.2.2.1 btz0.2.2.2.2.1 btz0.2.2.2.2.2.1 btz0.2.2.2.2.2.2.1 btz0.2.2.2.2.2.2.2.1 btz0.2.2.2.2.2.2.2.2.1 btz0.2.2.2.2.2.2.2.2.2).bind fun btz1 => ((laws_equalImage.f k btz2.1 btz2.2.1 btz2.2.2.1 btz2.2.2.2.1 btz1.1 btz1.2.1 btz1.2.2.1 btz1.2.2.2.1).bind fun tz34 => (if tz34 = true then (if (btz2.2.2.2.2 != btz1.2.2.2.2) = true then (laws_FnRedrawTiles.j0 k btz0.2.2.2.2.2.2.2.2.1 btz2.2.2.2.2 btz1.2.2.2.2 true btz0.1 btz0.2.1 btz0.2.2.1 btz0.2.2.2.1 btz0.2.2.2.2.1 btz0.2.2.2.2.2.1 btz0.2.2.2.2.2.2.1 btz0.2.2.2.2.2.2.2.1 btz2.1 btz2.2.1 btz2.2.2.1 btz2.2.2.2.1 btz1.1 btz1.2.1 btz1.2.2.1 btz1.2.2.2.1) else (laws_FnRedrawTiles.j0 k btz0.2.2.2.2.2.2.2.2.1 btz2.2.2.2.2 btz1.2.2.2.2 (!btz2.2.2.2.2) btz0.1 btz0.2.1 btz0.2.2.1 btz0.2.2.2.1 btz0.2.2.2.2.1 btz0.2.2.2.2.2.1 btz0.2.2.2.2.2.2.1 btz0.2.2.2.2.2.2.2.1 btz2.1 btz2.2.1 btz2.2.2.1 btz2.2.2.2.1 btz1.1 btz1.2.1 btz1.2.2.1 btz1.2.2.2.1)) else (laws_FnRedrawTiles.j0 k btz0.2.2.2.2.2.2.2.2.1 btz2.2.2.2.2 btz1.2.2.2.2 true btz0.1 btz0.2.1 btz0.2.2.1 btz0.2.2.2.1 btz0.2.2.2.2.1 btz0.2.2.2.2.2.1 btz0.2.2.2.2.2.2.1 btz0.2.2.2.2.2.2.2.1 btz2.1 btz2.2.1 btz2.2.2.1 btz2.2.2.2.1 btz1.1 btz1.2.1 btz1.2.2.1 btz1.2.2.2.1))))))
theorem laws_FnRedrawTiles.calls (k : Nat) (A0 : Option Addr) (c0 : Nat) (l0 : List Int) (r : Bool) (w : World) (hr0 : Kd.C (Kd.int .u8) w A0 l0.length l0) (hc0 : l0.length ≤ c0) (h : laws_FnRedrawTiles.f k l0 = some r) (hrt : r = true) :
  Calls Try.prog 19 #[.slice A0 l0.length c0] w fun e w' => e = .returned (.bool r) ∧ Below w.heap.size w w' := by
 have HRT := mk hrt
 clear hrt
 have hu27 := Try.underlying27
 have HR0 := mk hr0
 have HC0 := mk hc0
 clear hr0 hc0
 have HB := mk (Below.refl w.heap.size w)
 have H : (if (l0.length : Int) > 1048576 then (some true) else ((spec_DrawRedrawTiles.f k l0).bind fun btz0 => ((impl_RedrawTiles.f k btz0.1 btz0.2.1 btz0.2.2.1 btz0.2.2.2.1 btz0.2.2.2.2.1 btz0.2.2.2.2.2.1 btz0.2.2.2.2.2.2.1 btz0.2.2.2.2.2.2.2.1 btz0.2.2.2.2.2.2.2.2.1 btz0.2.2.2.2.2.2.2.2.2).bind fun btz2 => ((spec_RedrawTiles.f k btz0.1 btz0.2.1 btz0.2.2.1 btz0.2.2.2.1 btz0.2.2.2.2.1 btz0.2.2.2.2.2.1 btz0.2.2.2.2.2.2.1 btz0.2.2.2.2.2.2.2.1 btz0.2.2.2.2.2.2.2.2.1 btz0.2.2.2.2.2.2.2.2.2).bind fun btz1 => ((laws_equalImage.f k btz2.1 btz2.2.1 btz2.2.2.1 btz2.2.2.2.1 btz1.1 btz1.2.1 btz1.2.2.1 btz1.2.2.2.1).bind fun tz34 => (if tz34 = true then (if (btz2.2.2.2.2 != btz1.2.2.2.2) = true then (laws_FnRedrawTiles.j0 k btz0.2.2.2.2.2.2.2.2.1 btz2.2.2.2.2 btz1.2.2.2.2 true btz0.1 btz0.2.1 btz0.2.2.1 btz0.2.2.2.1 btz0.2.2.2.2.1 btz0.2.2.2.2.2.1 btz0.2.2.2.2.2.2.1 btz0.2.2.2.2.2.2.2.1 btz2.1 btz2.2.1 btz2.2.2.1 btz2.2.2.2.1 btz1.1 btz1.2.1 btz1.2.2.1 btz1.2.2.2.1) else (laws_FnRedrawTiles.j0 k btz0.2.2.2.2.2.2.2.2.1 btz2.2.2.2.2 btz1.2.2.2.2 (!btz2.2.2.2.2) btz0.1 btz0.2.1 btz0.2.2.1 btz0.2.2.2.1 btz0.2.2.2.2.1 btz0.2.2.2.2.2.1 btz0.2.2.2.2.2.2.1 btz0.2.2.2.2.2.2.2.1 btz2.1 btz2.2.1 btz2.2.2.1 btz2.2.2.2.1 btz1.1 btz1.2.1 btz1.2.2.1 btz1.2.2.2.1)) else (laws_FnRedrawTiles.j0 k btz0.2.2.2.2.2.2.2.2.1 btz2.2.2.2.2 btz1.2.2.2.2 true btz0.1 btz0.2.1 btz0.2.2.1 btz0.2.2.2.1 btz0.2.2.2.2.1 btz0.2.2.2.2.2.1 btz0.2.2.2.2.2.2.1 btz0.2.2.2.2.2.2.2.1 btz2.1 btz2.2.1 btz2.2.2.1 btz2.2.2.2.1 btz1.1 btz1.2.1 btz1.2.2.1 btz1.2.2.2.1))))))) = some r := h
 clear h
 by_cases c2 : (l0.length : Int) > 1048576
 ·rw [if_pos c2] at H
  have c2b0 : decide (1048576 < (l0.length : Int)) = true := decide_eq_true c2
  have c2b1 : decide (1048576 < l0.length) = true := decide_eq_true (by omega)
  clear c2
  obtain rfl := Option.some.inj H
  go_enter Try.func19, Try.ntmps19
  go_wp2
  go_ret
  exact ⟨by rfl, by exact HB.out⟩
 rw [if_neg c2] at H
 have c2b0 : decide (1048576 < (l0.length : Int)) = false := decide_eq_false c2
 have c2b1 : decide (1048576 < l0.length) = false := decide_eq_false (by omega)
 clear c2
 replace H := Option.bind_eq_some_iff.mp H
 obtain ⟨⟨tz4, tz6, tz8, tz0, tz5, tz7, tz9, tz1, tz16, tz32⟩, A30, H⟩ := H
 dsimp only at H
 have A3 := mk A30
 clear A30
 replace H := Option.bind_eq_some_iff.mp H
 obtain ⟨⟨tz12, tz14, tz15, tz2, tz17⟩, A40, H⟩ := H
 dsimp only at H
 have A4 := mk A40
 clear A40
 replace H := Option.bind_eq_some_iff.mp H
 obtain ⟨⟨tz10, tz11, tz13, tz3, tz26⟩, A50, H⟩ := H
 dsimp only at H
 have A5 := mk A50
 clear A50
 have HC6 := mk H
 clear H
 go_enter Try.func19, Try.ntmps19
 go_upto_region 6 with (first | ((with_reducible refine gate_callee (f := 79) rfl ?_); refine goesL_ (some 24) rfl rfl Try.func79 (by kernel_rfl) rfl #[.slice A0 l0.length c0] rfl (by (try simp only [bitvec_to_nat]); rfl) ?_; (with_reducible refine (spec_DrawRedrawTiles.calls k _ _ l0 tz4 tz6 tz8 tz0 tz5 tz7 tz9 tz1 tz16 tz32 _ ?side1 ?side2 A3.out).mono ?_); (case side1 => repeat (exact HR0.out)); (case side2 => exact HC0.out); rintro e w7 ⟨vz0, vz1, vz4, vz2, rfl, ho0, ho1, ho2, ho3, hb⟩; refine ⟨_, rfl, ?_⟩; have HOz4 := mk (Kd.Q_lower (Kd.Q_mono (ok' := fun k_ => some k_ ≠ (vz1 : Value).ownBlock ∧ some k_ ≠ (vz2 : Value).ownBlock) ho0 (fun _ hk_ => hk_.2)) (below_size HB.out)); have HOz5 := mk (Kd.Q_lower (Kd.Q_mono (ok' := fun k_ => some k_ ≠ (vz0 : Value).ownBlock ∧ some k_ ≠ (vz2 : Value).ownBlock) ho1 (fun _ hk_ => hk_.2)) (below_size HB.out)); have HOz6 := mk (Kd.N_lower (Kd.N_mono (ok' := fun k_ => some k_ ≠ (vz0 : Value).ownBlock ∧ some k_ ≠ (vz1 : Value).ownBlock ∧ some k_ ≠ (vz2 : Value).ownBlock) ho2 (fun k_ hk_ => ⟨hk_.2.1, hk_.2.2.1, hk_.2.2.2⟩)) (below_size HB.out)); have HOz8 := mk (Kd.Q_lower (Kd.Q_mono (ok' := fun k_ => some k_ ≠ (vz0 : Value).ownBlock ∧ some k_ ≠ (vz1 : Value).ownBlock) ho3 (fun _ hk_ => hk_.2)) (below_size HB.out)); replace HB := mk (below_step HB.out hb)) | ((with_reducible refine gate_dst (N := 3) rfl ?_); refine box_event (by rfl) (N := 3) (by rfl) (cs := #[.int .i64 0, .int .i64 0, .int .i64 0, .slice none 0 0]) (t := 27) (by go_simp; done) ?_; intro gbz4 hg w8 hbox hb; replace HOz4 := mk (Kd.Q_below HOz4.out hb); replace HOz5 := mk (Kd.Q_below HOz5.out hb); replace HOz6 := mk (Kd.N_below (Kd.N_elderB HOz6.out gbz4 (Nat.le_of_eq hg.symm)) hb); replace HOz8 := mk (Kd.Q_below HOz8.out hb); have BKz1 := mk (hbox); have GEz1 := mk ((by rw [hg]; exact (below_size HB.out) : w.heap.size ≤ gbz4)); replace HB := mk (below_step HB.out hb); clear hb hbox hg) | ((with_reducible refine gate_dst (N := 4) rfl ?_); refine box_event (by rfl) (N := 4) (by rfl) (cs := #[.int .i64 0, .int .i64 0, .int .i64 0, .slice none 0 0]) (t := 27) (by go_simp; done) ?_; intro gbz1 hg w9 hbox hb; replace HOz4 := mk (Kd.Q_below HOz4.out hb); replace HOz5 := mk (Kd.Q_below HOz5.out hb); replace HOz6 := mk (Kd.N_below (Kd.N_elderB HOz6.out gbz1 (Nat.le_of_eq hg.symm)) hb); replace HOz8 := mk (Kd.Q_below HOz8.out hb); have BKz0 := mk (hbox); have GEz2 := mk ((by rw [hg]; exact (below_size HB.out) : w.heap.size ≤ gbz1)); replace HB := mk (below_step HB.out hb); have NBz16 := mk ((by rw [hg]; exact Nat.ne_of_lt (blk_lt BKz1.out) : gbz4 ≠ gbz1)); have NBz3 := mk ((by rw [hg]; exact Nat.ne_of_gt (blk_lt BKz1.out) : gbz1 ≠ gbz4)); replace BKz1 := mk (blk_below BKz1.out hb); clear hb hbox hg; have hnc10 := NBz3.out; obtain ⟨hcz11_0, hcz11_1, hcz11_2, hcz11_3, hfz11_0, hfz11_1, hfz11_2, hfz11_3⟩ := c4 BKz1.out; obtain ⟨Ao12, co12, eo12, _⟩ := Kd.Q_slice HOz4.out; subst eo12; obtain ⟨hcz13_0, hcz13_1, hcz13_2, hcz13_3, hfz13_0, hfz13_1, hfz13_2, hfz13_3⟩ := c4 BKz0.out; obtain ⟨Ao14, co14, eo14, _⟩ := Kd.Q_slice HOz5.out; subst eo14; obtain ⟨Ao15, co15, eo15⟩ := Kd.N_slice HOz6.out; subst eo15; obtain ⟨Ao16, co16, eo16, _⟩ := Kd.Q_slice HOz8.out; subst eo16) | ((with_reducible refine gate_callee (f := 78) rfl ?_); refine goesL_ (some 34) rfl rfl Try.func78 (by kernel_rfl) rfl #[.agg #[.int .i64 tz4, .int .i64 tz6, .int .i64 tz8, .slice Ao12 tz0.length co12], .agg #[.int .i64 tz5, .int .i64 tz7, .int .i64 tz9, .slice Ao14 tz1.length co14], .slice Ao15 tz16.length co15, .slice Ao16 tz32.length co16] rfl (by (try simp only [bitvec_to_nat]); rfl) ?_; (with_reducible refine (impl_RedrawTiles.calls k tz4 tz6 tz8 _ _ tz0 tz5 tz7 tz9 _ _ tz1 _ _ tz16 _ _ tz32 tz12 tz14 tz15 tz2 tz17 _ ?side1 ?side2 ?side3 ?side4 ?side5 ?side6 ?side7 ?side8 A4.out).mono ?_); (case side1 => refine (Kd.Q_reads' (e := 3) (base := w.heap.size) (ok := fun k_ => (some k_ ≠ (.slice Ao14 tz1.length co14 : Value).ownBlock ∧ some k_ ≠ (.slice Ao16 tz32.length co16 : Value).ownBlock)) (n := tz0.length) (c := co12) ?_).2.2; exact (by exact (Kd.Q_mono (Kd.Q_mono (Q4 (Kd.Q_far (p := ⟨gbz4, 3, none⟩) (Kd.Q_far (p := ⟨gbz4, 2, none⟩) (Kd.Q_far (p := ⟨gbz4, 1, none⟩) (Kd.Q_far (p := ⟨gbz4, 0, none⟩) (Kd.Q_types (Kd.Q_types HOz4.out BKz1.out (by decide)) BKz0.out (by decide)) (fun _ hk => hk.1.2) (.int .i64 tz4)) (fun _ hk => hk.1.2) (.int .i64 tz6)) (fun _ hk => hk.1.2) (.int .i64 tz8)) (fun _ hk => hk.1.2) (.slice Ao12 tz0.length co12)) (.int .i64 tz5) (.int .i64 tz7) (.int .i64 tz9) (.slice Ao14 tz1.length co14)) (fun _ h_ => h_.1)) (fun _ h_ => h_.1)))); (case side2 => exact (Kd.Q_reads' HOz4.out).2.1); (case side3 => refine (Kd.Q_reads' (e := 3) (base := w.heap.size) (ok := fun k_ => (some k_ ≠ (.slice Ao12 tz0.length co12 : Value).ownBlock ∧ some k_ ≠ (.slice Ao16 tz32.length co16 : Value).ownBlock)) (n := tz1.length) (c := co14) ?_).2.2; exact (by exact (Kd.Q_mono (Kd.Q_mono (Q4 (Kd.Q_far (p := ⟨gbz4, 3, none⟩) (Kd.Q_far (p := ⟨gbz4, 2, none⟩) (Kd.Q_far (p := ⟨gbz4, 1, none⟩) (Kd.Q_far (p := ⟨gbz4, 0, none⟩) (Kd.Q_types (Kd.Q_types HOz5.out BKz1.out (by decide)) BKz0.out (by decide)) (fun _ hk => hk.1.2) (.int .i64 tz4)) (fun _ hk => hk.1.2) (.int .i64 tz6)) (fun _ hk => hk.1.2) (.int .i64 tz8)) (fun _ hk => hk.1.2) (.slice Ao12 tz0.length co12)) (.int .i64 tz5) (.int .i64 tz7) (.int .i64 tz9) (.slice Ao14 tz1.length co14)) (fun _ h_ => h_.1)) (fun _ h_ => h_.1)))); (case side4 => exact (Kd.Q_reads' HOz5.out).2.1); (case side5 => refine (Kd.N_reads' (e := 55) (base := w.heap.size) (ok := fun k_ => (((some k_ ≠ (.slice Ao12 tz0.length co12 : Value).ownBlock ∧ (some k_ ≠ (.slice Ao14 tz1.length co14 : Value).ownBlock ∧ some k_ ≠ (.slice Ao16 tz32.length co16 : Value).ownBlock)) ∧ k_ ≠ gbz4) ∧ k_ ≠ gbz1)) (n := tz16.length) (c := co15) ?_).2.2; exact (by exact (Kd.N_mono (Kd.N_mono (N4 (Kd.N_far (p := ⟨gbz4, 3, none⟩) (Kd.N_far (p := ⟨gbz4, 2, none⟩) (Kd.N_far (p := ⟨gbz4, 1, none⟩) (Kd.N_far (p := ⟨gbz4, 0, none⟩) (Kd.N_mono (Kd.N_mono HOz6.out (fun k_ hk => (⟨hk, hk.1.2⟩ : _ ∧ k_ ≠ gbz4))) (fun k_ hk => (⟨hk, hk.1.2⟩ : _ ∧ k_ ≠ gbz1))) (fun _ hk => hk.1.2) (.int .i64 tz4)) (fun _ hk => hk.1.2) (.int .i64 tz6)) (fun _ hk => hk.1.2) (.int .i64 tz8)) (fun _ hk => hk.1.2) (.slice Ao12 tz0.length co12)) (.int .i64 tz5) (.int .i64 tz7) (.int .i64 tz9) (.slice Ao14 tz1.length co14)) (fun _ h_ => h_.1)) (fun _ h_ => h_.1)))); (case side6 => exact (Kd.N_reads' HOz6.out).2.1); (case side7 => refine (Kd.Q_reads' (e := 3) (base := w.heap.size) (ok := fun k_ => (some k_ ≠ (.slice Ao12 tz0.length co12 : Value).ownBlock ∧ some k_ ≠ (.slice Ao14 tz1.length co14 : Value).ownBlock)) (n := tz32.length) (c := co16) ?_).2.2; exact (by exact (Kd.Q_mono (Kd.Q_mono (Q4 (Kd.Q_far (p := ⟨gbz4, 3, none⟩) (Kd.Q_far (p := ⟨gbz4, 2, none⟩) (Kd.Q_far (p := ⟨gbz4, 1, none⟩) (Kd.Q_far (p := ⟨gbz4, 0, none⟩) (Kd.Q_types (Kd.Q_types HOz8.out BKz1.out (by decide)) BKz0.out (by decide)) (fun _ hk => hk.1.2) (.int .i64 tz4)) (fun _ hk => hk.1.2) (.int .i64 tz6)) (fun _ hk => hk.1.2) (.int .i64 tz8)) (fun _ hk => hk.1.2) (.slice Ao12 tz0.length co12)) (.int .i64 tz5) (.int .i64 tz7) (.int .i64 tz9) (.slice Ao14 tz1.length co14)) (fun _ h_ => h_.1)) (fun _ h_ => h_.1)))); (case side8 => exact (Kd.Q_reads' HOz8.out).2.1); rintro e w17 ⟨vz5, rfl, ho0, hb⟩; refine ⟨_, rfl, ?_⟩; replace HOz6 := mk (Kd.N_elder' (by exact (Kd.N_mono (Kd.N_mono (N4 (Kd.N_far (p := ⟨gbz4, 3, none⟩) (Kd.N_far (p := ⟨gbz4, 2, none⟩) (Kd.N_far (p := ⟨gbz4, 1, none⟩) (Kd.N_far (p := ⟨gbz4, 0, none⟩) (Kd.N_mono (Kd.N_mono HOz6.out (fun k_ hk => (⟨hk, hk.1.2⟩ : _ ∧ k_ ≠ gbz4))) (fun k_ hk => (⟨hk, hk.1.2⟩ : _ ∧ k_ ≠ gbz1))) (fun _ hk => hk.1.2) (.int .i64 tz4)) (fun _ hk => hk.1.2) (.int .i64 tz6)) (fun _ hk => hk.1.2) (.int .i64 tz8)) (fun _ hk => hk.1.2) (.slice Ao12 tz0.length co12)) (.int .i64 tz5) (.int .i64 tz7) (.int .i64 tz9) (.slice Ao14 tz1.length co14)) (fun _ h_ => h_.1)) (fun _ h_ => h_.1))) (Kd.R_base ho0) hb); have HOz7 := mk (Kd.R_lower (Kd.R_new' (Kd.R_new' (Kd.R_new' ho0 (Kd.Q_lt (by exact (Kd.Q_mono (Kd.Q_mono (Q4 (Kd.Q_far (p := ⟨gbz4, 3, none⟩) (Kd.Q_far (p := ⟨gbz4, 2, none⟩) (Kd.Q_far (p := ⟨gbz4, 1, none⟩) (Kd.Q_far (p := ⟨gbz4, 0, none⟩) (Kd.Q_types (Kd.Q_types HOz4.out BKz1.out (by decide)) BKz0.out (by decide)) (fun _ hk => hk.1.2) (.int .i64 tz4)) (fun _ hk => hk.1.2) (.int .i64 tz6)) (fun _ hk => hk.1.2) (.int .i64 tz8)) (fun _ hk => hk.1.2) (.slice Ao12 tz0.length co12)) (.int .i64 tz5) (.int .i64 tz7) (.int .i64 tz9) (.slice Ao14 tz1.length co14)) (fun _ h_ => h_.1)) (fun _ h_ => h_.1))))) (Kd.Q_lt (by exact (Kd.Q_mono (Kd.Q_mono (Q4 (Kd.Q_far (p := ⟨gbz4, 3, none⟩) (Kd.Q_far (p := ⟨gbz4, 2, none⟩) (Kd.Q_far (p := ⟨gbz4, 1, none⟩) (Kd.Q_far (p := ⟨gbz4, 0, none⟩) (Kd.Q_types (Kd.Q_types HOz5.out BKz1.out (by decide)) BKz0.out (by decide)) (fun _ hk => hk.1.2) (.int .i64 tz4)) (fun _ hk => hk.1.2) (.int .i64 tz6)) (fun _ hk => hk.1.2) (.int .i64 tz8)) (fun _ hk => hk.1.2) (.slice Ao12 tz0.length co12)) (.int .i64 tz5) (.int .i64 tz7) (.int .i64 tz9) (.slice Ao14 tz1.length co14)) (fun _ h_ => h_.1)) (fun _ h_ => h_.1))))) (Kd.Q_lt (by exact (Kd.Q_mono (Kd.Q_mono (Q4 (Kd.Q_far (p := ⟨gbz4, 3, none⟩) (Kd.Q_far (p := ⟨gbz4, 2, none⟩) (Kd.Q_far (p := ⟨gbz4, 1, none⟩) (Kd.Q_far (p := ⟨gbz4, 0, none⟩) (Kd.Q_types (Kd.Q_types HOz8.out BKz1.out (by decide)) BKz0.out (by decide)) (fun _ hk => hk.1.2) (.int .i64 tz4)) (fun _ hk => hk.1.2) (.int .i64 tz6)) (fun _ hk => hk.1.2) (.int .i64 tz8)) (fun _ hk => hk.1.2) (.slice Ao12 tz0.length co12)) (.int .i64 tz5) (.int .i64 tz7) (.int .i64 tz9) (.slice Ao14 tz1.length co14)) (fun _ h_ => h_.1)) (fun _ h_ => h_.1))))) (below_size (by repeat (with_reducible first | exact HB.out | refine below_set ?_ GEz1.out | refine below_set ?_ GEz2.out)))); replace HOz4 := mk (Kd.Q_elder' (by exact (Kd.Q_mono (Kd.Q_mono (Q4 (Kd.Q_far (p := ⟨gbz4, 3, none⟩) (Kd.Q_far (p := ⟨gbz4, 2, none⟩) (Kd.Q_far (p := ⟨gbz4, 1, none⟩) (Kd.Q_far (p := ⟨gbz4, 0, none⟩) (Kd.Q_types (Kd.Q_types HOz4.out BKz1.out (by decide)) BKz0.out (by decide)) (fun _ hk => hk.1.2) (.int .i64 tz4)) (fun _ hk => hk.1.2) (.int .i64 tz6)) (fun _ hk => hk.1.2) (.int .i64 tz8)) (fun _ hk => hk.1.2) (.slice Ao12 tz0.length co12)) (.int .i64 tz5) (.int .i64 tz7) (.int .i64 tz9) (.slice Ao14 tz1.length co14)) (fun _ h_ => h_.1)) (fun _ h_ => h_.1))) (Kd.R_base ho0) hb); replace HOz5 := mk (Kd.Q_elder' (by exact (Kd.Q_mono (Kd.Q_mono (Q4 (Kd.Q_far (p := ⟨gbz4, 3, none⟩) (Kd.Q_far (p := ⟨gbz4, 2, none⟩) (Kd.Q_far (p := ⟨gbz4, 1, none⟩) (Kd.Q_far (p := ⟨gbz4, 0, none⟩) (Kd.Q_types (Kd.Q_types HOz5.out BKz1.out (by decide)) BKz0.out (by decide)) (fun _ hk => hk.1.2) (.int .i64 tz4)) (fun _ hk => hk.1.2) (.int .i64 tz6)) (fun _ hk => hk.1.2) (.int .i64 tz8)) (fun _ hk => hk.1.2) (.slice Ao12 tz0.length co12)) (.int .i64 tz5) (.int .i64 tz7) (.int .i64 tz9) (.slice Ao14 tz1.length co14)) (fun _ h_ => h_.1)) (fun _ h_ => h_.1))) (Kd.R_base ho0) hb); replace HOz8 := mk (Kd.Q_elder' (by exact (Kd.Q_mono (Kd.Q_mono (Q4 (Kd.Q_far (p := ⟨gbz4, 3, none⟩) (Kd.Q_far (p := ⟨gbz4, 2, none⟩) (Kd.Q_far (p := ⟨gbz4, 1, none⟩) (Kd.Q_far (p := ⟨gbz4, 0, none⟩) (Kd.Q_types (Kd.Q_types HOz8.out BKz1.out (by decide)) BKz0.out (by decide)) (fun _ hk => hk.1.2) (.int .i64 tz4)) (fun _ hk => hk.1.2) (.int .i64 tz6)) (fun _ hk => hk.1.2) (.int .i64 tz8)) (fun _ hk => hk.1.2) (.slice Ao12 tz0.length co12)) (.int .i64 tz5) (.int .i64 tz7) (.int .i64 tz9) (.slice Ao14 tz1.length co14)) (fun _ h_ => h_.1)) (fun _ h_ => h_.1))) (Kd.R_base ho0) hb); replace BKz1 := mk (blk_below (g := gbz4) (o := .cells #[.int .i64 tz4, .int .i64 tz6, .int .i64 tz8, .slice Ao12 tz0.length co12] 27 (0, 0)) (by refine f4 ?_ NBz16.out; refine p4 (.int .i64 0) (.int .i64 0) (.int .i64 0) (.slice none 0 0) ?_; exact BKz1.out) hb); replace BKz0 := mk (blk_below (g := gbz1) (o := .cells #[.int .i64 tz5, .int .i64 tz7, .int .i64 tz9, .slice Ao14 tz1.length co14] 27 (0, 0)) (by refine p4 (.int .i64 0) (.int .i64 0) (.int .i64 0) (.slice none 0 0) ?_; refine f4 ?_ NBz3.out; exact BKz0.out) hb); replace HB := mk (below_step (by repeat (with_reducible first | exact HB.out | refine below_set ?_ GEz1.out | refine below_set ?_ GEz2.out)) hb)) | ((with_reducible refine gate_dst (N := 7) rfl ?_); refine box_event (by rfl) (N := 7) (by rfl) (cs := #[.int .i64 0, .int .i64 0, .int .i64 0, .slice none 0 0]) (t := 27) (by go_simp; done) ?_; intro gbz2 hg w18 hbox hb; replace HOz4 := mk (Kd.Q_below HOz4.out hb); replace HOz5 := mk (Kd.Q_below HOz5.out hb); replace HOz6 := mk (Kd.N_below (Kd.N_elderB HOz6.out gbz2 (Nat.le_of_eq hg.symm)) hb); replace HOz8 := mk (Kd.Q_below HOz8.out hb); replace HOz7 := mk (Kd.R_below HOz7.out hb); have BKz2 := mk (hbox); have GEz3 := mk ((by rw [hg]; exact (below_size HB.out) : w.heap.size ≤ gbz2)); replace HB := mk (below_step HB.out hb); have NBz4 := mk ((by rw [hg]; exact Nat.ne_of_lt (blk_lt BKz1.out) : gbz4 ≠ gbz2)); replace BKz1 := mk (blk_below BKz1.out hb); have NBz5 := mk ((by rw [hg]; exact Nat.ne_of_lt (blk_lt BKz0.out) : gbz1 ≠ gbz2)); have NBz25 := mk ((by rw [hg]; exact Nat.ne_of_gt (blk_lt BKz0.out) : gbz2 ≠ gbz1)); replace BKz0 := mk (blk_below BKz0.out hb); clear hb hbox hg; have hnc19 := NBz4.out; have hnb20 := NBz25.out; have hnc20 := NBz5.out; obtain ⟨hcz21_0, hcz21_1, hcz21_2, hcz21_3, hfz21_0, hfz21_1, hfz21_2, hfz21_3⟩ := c4 BKz2.out; obtain ⟨Ao22, co22, eo22⟩ := Kd.R_slice HOz7.out; subst eo22; obtain ⟨hcz23_0, hcz23_1, hcz23_2, hcz23_3, hfz23_0, hfz23_1, hfz23_2, hfz23_3⟩ := c4 BKz1.out; obtain ⟨hcz24_0, hcz24_1, hcz24_2, hcz24_3, hfz24_0, hfz24_1, hfz24_2, -⟩ := c4 BKz0.out; have hfz24_3 := blk_frozen BKz0.out 3) | ((with_reducible refine gate_callee (f := 76) rfl ?_); refine goesL_ (some 42) rfl rfl Try.func76 (by kernel_rfl) rfl #[.agg #[.int .i64 tz4, .int .i64 tz6, .int .i64 tz8, .slice Ao12 tz0.length co12], .agg #[.int .i64 tz5, .int .i64 tz7, .int .i64 tz9, .slice Ao14 tz1.length co14], .slice Ao15 tz16.length co15, .slice Ao16 tz32.length co16] rfl (by (try simp only [bitvec_to_nat]); rfl) ?_; (with_reducible refine (spec_RedrawTiles.calls k tz4 tz6 tz8 _ _ tz0 tz5 tz7 tz9 _ _ tz1 _ _ tz16 _ _ tz32 tz10 tz11 tz13 tz3 tz26 _ ?side1 ?side2 ?side3 ?side4 ?side5 ?side6 ?side7 ?side8 A5.out).mono ?_); (case side1 => refine (Kd.Q_reads' (e := 3) (base := w.heap.size) (ok := fun k_ => ((some k_ ≠ (.slice Ao14 tz1.length co14 : Value).ownBlock ∧ some k_ ≠ (.slice Ao16 tz32.length co16 : Value).ownBlock) ∧ some k_ ≠ (.slice Ao22 tz2.length co22 : Value).ownBlock)) (n := tz0.length) (c := co12) ?_).2.2; exact (by exact (Kd.Q_mono (Q4 (Kd.Q_types HOz4.out BKz2.out (by decide)) (.int .i64 tz12) (.int .i64 tz14) (.int .i64 tz15) (.slice Ao22 tz2.length co22)) (fun _ h_ => h_.1)))); (case side2 => exact (Kd.Q_reads' HOz4.out).2.1); (case side3 => refine (Kd.Q_reads' (e := 3) (base := w.heap.size) (ok := fun k_ => ((some k_ ≠ (.slice Ao12 tz0.length co12 : Value).ownBlock ∧ some k_ ≠ (.slice Ao16 tz32.length co16 : Value).ownBlock) ∧ some k_ ≠ (.slice Ao22 tz2.length co22 : Value).ownBlock)) (n := tz1.length) (c := co14) ?_).2.2; exact (by exact (Kd.Q_mono (Q4 (Kd.Q_types HOz5.out BKz2.out (by decide)) (.int .i64 tz12) (.int .i64 tz14) (.int .i64 tz15) (.slice Ao22 tz2.length co22)) (fun _ h_ => h_.1)))); (case side4 => exact (Kd.Q_reads' HOz5.out).2.1); (case side5 => refine (Kd.N_reads' (e := 55) (base := w.heap.size) (ok := fun k_ => (((((some k_ ≠ (.slice Ao12 tz0.length co12 : Value).ownBlock ∧ (some k_ ≠ (.slice Ao14 tz1.length co14 : Value).ownBlock ∧ some k_ ≠ (.slice Ao16 tz32.length co16 : Value).ownBlock)) ∧ k_ ≠ gbz4) ∧ k_ ≠ gbz1) ∧ some k_ ≠ (.slice Ao22 tz2.length co22 : Value).ownBlock) ∧ k_ ≠ gbz2)) (n := tz16.length) (c := co15) ?_).2.2; exact (by exact (Kd.N_mono (N4 (Kd.N_mono HOz6.out (fun k_ hk => (⟨hk, hk.2⟩ : _ ∧ k_ ≠ gbz2))) (.int .i64 tz12) (.int .i64 tz14) (.int .i64 tz15) (.slice Ao22 tz2.length co22)) (fun _ h_ => h_.1)))); (case side6 => exact (Kd.N_reads' HOz6.out).2.1); (case side7 => refine (Kd.Q_reads' (e := 3) (base := w.heap.size) (ok := fun k_ => ((some k_ ≠ (.slice Ao12 tz0.length co12 : Value).ownBlock ∧ some k_ ≠ (.slice Ao14 tz1.length co14 : Value).ownBlock) ∧ some k_ ≠ (.slice Ao22 tz2.length co22 : Value).ownBlock)) (n := tz32.length) (c := co16) ?_).2.2; exact (by exact (Kd.Q_mono (Q4 (Kd.Q_types HOz8.out BKz2.out (by decide)) (.int .i64 tz12) (.int .i64 tz14) (.int .i64 tz15) (.slice Ao22 tz2.length co22)) (fun _ h_ => h_.1)))); (case side8 => exact (Kd.Q_reads' HOz8.out).2.1); rintro e w25 ⟨vz6, rfl, ho0, hb⟩; refine ⟨_, rfl, ?_⟩; replace HOz6 := mk (Kd.N_elder' (by exact (Kd.N_mono (N4 (Kd.N_mono HOz6.out (fun k_ hk => (⟨hk, hk.2⟩ : _ ∧ k_ ≠ gbz2))) (.int .i64 tz12) (.int .i64 tz14) (.int .i64 tz15) (.slice Ao22 tz2.length co22)) (fun _ h_ => h_.1))) (Kd.R_base ho0) hb); have HOz9 := mk (Kd.R_lower (Kd.R_new' (Kd.R_new' (Kd.R_new' (Kd.R_new' ho0 (Kd.Q_lt (by exact (Kd.Q_mono (Q4 (Kd.Q_types HOz4.out BKz2.out (by decide)) (.int .i64 tz12) (.int .i64 tz14) (.int .i64 tz15) (.slice Ao22 tz2.length co22)) (fun _ h_ => h_.1))))) (Kd.Q_lt (by exact (Kd.Q_mono (Q4 (Kd.Q_types HOz5.out BKz2.out (by decide)) (.int .i64 tz12) (.int .i64 tz14) (.int .i64 tz15) (.slice Ao22 tz2.length co22)) (fun _ h_ => h_.1))))) (Kd.Q_lt (by exact (Kd.Q_mono (Q4 (Kd.Q_types HOz8.out BKz2.out (by decide)) (.int .i64 tz12) (.int .i64 tz14) (.int .i64 tz15) (.slice Ao22 tz2.length co22)) (fun _ h_ => h_.1))))) (Kd.R_lt (by exact (Kd.R_mono (R4 (Kd.R_types HOz7.out BKz2.out (by decide)) (.int .i64 tz12) (.int .i64 tz14) (.int .i64 tz15) (.slice Ao22 tz2.length co22)) (fun _ h_ => h_.1))))) (below_size (by repeat (with_reducible first | exact HB.out | refine below_set ?_ GEz3.out)))); replace HOz4 := mk (Kd.Q_elder' (by exact (Kd.Q_mono (Q4 (Kd.Q_types HOz4.out BKz2.out (by decide)) (.int .i64 tz12) (.int .i64 tz14) (.int .i64 tz15) (.slice Ao22 tz2.length co22)) (fun _ h_ => h_.1))) (Kd.R_base ho0) hb); replace HOz5 := mk (Kd.Q_elder' (by exact (Kd.Q_mono (Q4 (Kd.Q_types HOz5.out BKz2.out (by decide)) (.int .i64 tz12) (.int .i64 tz14) (.int .i64 tz15) (.slice Ao22 tz2.length co22)) (fun _ h_ => h_.1))) (Kd.R_base ho0) hb); replace HOz8 := mk (Kd.Q_elder' (by exact (Kd.Q_mono (Q4 (Kd.Q_types HOz8.out BKz2.out (by decide)) (.int .i64 tz12) (.int .i64 tz14) (.int .i64 tz15) (.slice Ao22 tz2.length co22)) (fun _ h_ => h_.1))) (Kd.R_base ho0) hb); replace HOz7 := mk (Kd.R_elder' (by exact (Kd.R_mono (R4 (Kd.R_types HOz7.out BKz2.out (by decide)) (.int .i64 tz12) (.int .i64 tz14) (.int .i64 tz15) (.slice Ao22 tz2.length co22)) (fun _ h_ => h_.1))) (Kd.R_base ho0) hb); replace BKz1 := mk (blk_below (g := gbz4) (o := .cells #[.int .i64 tz4, .int .i64 tz6, .int .i64 tz8, .slice Ao12 tz0.length co12] 27 (0, 0)) (by refine f4 ?_ NBz4.out; exact BKz1.out) hb); replace BKz0 := mk (blk_below (g := gbz1) (o := .cells #[.int .i64 tz5, .int .i64 tz7, .int .i64 tz9, .slice Ao14 tz1.length co14] 27 (0, 0)) (by refine f4 ?_ NBz5.out; exact BKz0.out) hb); replace BKz2 := mk (blk_below (g := gbz2) (o := .cells #[.int .i64 tz12, .int .i64 tz14, .int .i64 tz15, .slice Ao22 tz2.length co22] 27 (0, 0)) (by refine p4 (.int .i64 0) (.int .i64 0) (.int .i64 0) (.slice none 0 0) ?_; exact BKz2.out) hb); replace HB := mk (below_step (by repeat (with_reducible first | exact HB.out | refine below_set ?_ GEz3.out)) hb)) | ((with_reducible refine gate_dst (N := 9) rfl ?_); refine box_event (by rfl) (N := 9) (by rfl) (cs := #[.int .i64 0, .int .i64 0, .int .i64 0, .slice none 0 0]) (t := 27) (by go_simp; done) ?_; intro gbz0 hg w26 hbox hb; replace HOz4 := mk (Kd.Q_below HOz4.out hb); replace HOz5 := mk (Kd.Q_below HOz5.out hb); replace HOz6 := mk (Kd.N_below (Kd.N_elderB HOz6.out gbz0 (Nat.le_of_eq hg.symm)) hb); replace HOz8 := mk (Kd.Q_below HOz8.out hb); replace HOz7 := mk (Kd.R_below HOz7.out hb); replace HOz9 := mk (Kd.R_below HOz9.out hb); have BKz3 := mk (hbox); have GEz0 := mk ((by rw [hg]; exact (below_size HB.out) : w.heap.size ≤ gbz0)); replace HB := mk (below_step HB.out hb); have NBz0 := mk ((by rw [hg]; exact Nat.ne_of_lt (blk_lt BKz1.out) : gbz4 ≠ gbz0)); have NBz22 := mk ((by rw [hg]; exact Nat.ne_of_gt (blk_lt BKz1.out) : gbz0 ≠ gbz4)); replace BKz1 := mk (blk_below BKz1.out hb); have NBz1 := mk ((by rw [hg]; exact Nat.ne_of_lt (blk_lt BKz0.out) : gbz1 ≠ gbz0)); have NBz23 := mk ((by rw [hg]; exact Nat.ne_of_gt (blk_lt BKz0.out) : gbz0 ≠ gbz1)); replace BKz0 := mk (blk_below BKz0.out hb); have NBz2 := mk ((by rw [hg]; exact Nat.ne_of_lt (blk_lt BKz2.out) : gbz2 ≠ gbz0)); have NBz24 := mk ((by rw [hg]; exact Nat.ne_of_gt (blk_lt BKz2.out) : gbz0 ≠ gbz2)); replace BKz2 := mk (blk_below BKz2.out hb); clear hb hbox hg; obtain ⟨hcz30_0, hcz30_1, hcz30_2, hcz30_3, hfz30_0, hfz30_1, hfz30_2, hfz30_3⟩ := c4 BKz3.out; obtain ⟨Ao31, co31, eo31⟩ := Kd.R_slice HOz9.out; subst eo31))
 go_cut [57] (fun v57 wc => ∃ (kq : Nat) (x57_5 : Bool), v57 = .bool x57_5 ∧ Aside0 (laws_FnRedrawTiles.j0 kq tz16 tz17 tz26 x57_5 tz4 tz6 tz8 tz0 tz5 tz7 tz9 tz1 tz12 tz14 tz15 tz2 tz10 tz11 tz13 tz3 = some r) ∧ Aside0 (kq ≤ k) ∧ Aside0 (Kd.N k55 55 wc w.heap.size (fun k_ => some k_ ≠ ((.slice Ao12 tz0.length co12) : Value).ownBlock ∧ some k_ ≠ ((.slice Ao14 tz1.length co14) : Value).ownBlock ∧ some k_ ≠ ((.slice Ao22 tz2.length co22) : Value).ownBlock ∧ some k_ ≠ ((.slice Ao31 tz3.length co31) : Value).ownBlock ∧ k_ ≠ gbz4 ∧ k_ ≠ gbz1 ∧ k_ ≠ gbz2 ∧ k_ ≠ gbz0) (.slice Ao15 tz16.length co15) tz16) ∧ Aside0 (Kd.Q (Kd.int .i64) 3 wc w.heap.size (fun k_ => some k_ ≠ ((.slice Ao14 tz1.length co14) : Value).ownBlock ∧ some k_ ≠ ((.slice Ao22 tz2.length co22) : Value).ownBlock ∧ some k_ ≠ ((.slice Ao31 tz3.length co31) : Value).ownBlock) (.slice Ao12 tz0.length co12) tz0) ∧ Aside0 (Kd.Q (Kd.int .i64) 3 wc w.heap.size (fun k_ => some k_ ≠ ((.slice Ao12 tz0.length co12) : Value).ownBlock ∧ some k_ ≠ ((.slice Ao22 tz2.length co22) : Value).ownBlock ∧ some k_ ≠ ((.slice Ao31 tz3.length co31) : Value).ownBlock) (.slice Ao14 tz1.length co14) tz1) ∧ Aside0 (Kd.Q (Kd.int .i64) 3 wc w.heap.size (fun k_ => some k_ ≠ ((.slice Ao12 tz0.length co12) : Value).ownBlock ∧ some k_ ≠ ((.slice Ao14 tz1.length co14) : Value).ownBlock ∧ some k_ ≠ ((.slice Ao31 tz3.length co31) : Value).ownBlock) (.slice Ao22 tz2.length co22) tz2) ∧ Aside0 (Kd.Q (Kd.int .i64) 3 wc w.heap.size (fun k_ => some k_ ≠ ((.slice Ao12 tz0.length co12) : Value).ownBlock ∧ some k_ ≠ ((.slice Ao14 tz1.length co14) : Value).ownBlock ∧ some k_ ≠ ((.slice Ao22 tz2.length co22) : Value).ownBlock) (.slice Ao31 tz3.length co31) tz3) ∧ Aside0 (wc.heap[gbz4]? = some (.cells #[.int .i64 tz4, .int .i64 tz6, .int .i64 tz8, (.slice Ao12 tz0.length co12)] 27 (0, 0))) ∧ Aside0 (wc.heap[gbz1]? = some (.cells #[.int .i64 tz5, .int .i64 tz7, .int .i64 tz9, (.slice Ao14 tz1.length co14)] 27 (0, 0))) ∧ Aside0 (wc.heap[gbz2]? = some (.cells #[.int .i64 tz12, .int .i64 tz14, .int .i64 tz15, (.slice Ao22 tz2.length co22)] 27 (0, 0))) ∧ Aside0 (wc.heap[gbz0]? = some (.cells #[.int .i64 tz10, .int .i64 tz11, .int .i64 tz13, (.slice Ao31 tz3.length co31)] 27 (0, 0))) ∧ Aside0 (Below w.heap.size w wc))
 case first =>
  have H := HC6.out
  clear HC6
  replace H := Option.bind_eq_some_iff.mp H
  obtain ⟨tz34, A320, H⟩ := H
  replace H : (if tz34 = true then (if (tz17 != tz26) = true then (laws_FnRedrawTiles.j0 k tz16 tz17 tz26 true tz4 tz6 tz8 tz0 tz5 tz7 tz9 tz1 tz12 tz14 tz15 tz2 tz10 tz11 tz13 tz3) else (laws_FnRedrawTiles.j0 k tz16 tz17 tz26 (!tz17) tz4 tz6 tz8 tz0 tz5 tz7 tz9 tz1 tz12 tz14 tz15 tz2 tz10 tz11 tz13 tz3)) else (laws_FnRedrawTiles.j0 k tz16 tz17 tz26 true tz4 tz6 tz8 tz0 tz5 tz7 tz9 tz1 tz12 tz14 tz15 tz2 tz10 tz11 tz13 tz3)) = some r := H
  have A32 := mk A320
  clear A320
  by_cases c33 : tz34 = true
  ·subst c33
   have H1 : (if (tz17 != tz26) = true then (laws_FnRedrawTiles.j0 k tz16 tz17 tz26 true tz4 tz6 tz8 tz0 tz5 tz7 tz9 tz1 tz12 tz14 tz15 tz2 tz10 tz11 tz13 tz3) else (laws_FnRedrawTiles.j0 k tz16 tz17 tz26 (!tz17) tz4 tz6 tz8 tz0 tz5 tz7 tz9 tz1 tz12 tz14 tz15 tz2 tz10 tz11 tz13 tz3)) = some r := by rw [if_pos rfl] at H; exact H
   clear H
   have H := H1
   clear H1
   by_cases c34 : (tz17 != tz26) = true
   ·rw [if_pos c34] at H
    have c34b0 : (tz17 != tz26) = true := c34
    (try (have c34b1 : decide (tz17 = tz26) = false := by simpa using c34))
    (try (have c34b2 : (tz17 == tz26) = false := by simpa using c34))
    (try (have c34b3 : ¬ (tz17 = tz26) := by simpa using c34))
    clear c34
    (skip)
    have H' := mk H
    clear H
    have hnc37 := NBz24.out
    obtain ⟨hcz38_0, hcz38_1, hcz38_2, hcz38_3, -⟩ := c4 BKz2.out
    have hnb39 := NBz22.out
    have hnc39 := NBz0.out
    have hnb40 := NBz23.out
    have hnc40 := NBz1.out
    go_wp2_with (first | ((with_reducible refine gate_callee (f := 26) rfl ?_); refine goesL_ (some 47) rfl rfl Try.func26 (by kernel_rfl) rfl #[.agg #[.int .i64 tz12, .int .i64 tz14, .int .i64 tz15, .slice Ao22 tz2.length co22], .agg #[.int .i64 tz10, .int .i64 tz11, .int .i64 tz13, .slice Ao31 tz3.length co31]] rfl (by (try simp only [bitvec_to_nat]); rfl) ?_; (with_reducible refine (laws_equalImage.calls k tz12 tz14 tz15 _ _ tz2 tz10 tz11 tz13 _ _ tz3 true _ ?side1 ?side2 ?side3 ?side4 A32.out).mono ?_); (case side1 => refine (Kd.R_reads' (e := 3) (base := w.heap.size) (ok := fun k_ => ((((True ∧ some k_ ≠ (.slice Ao12 tz0.length co12 : Value).ownBlock) ∧ some k_ ≠ (.slice Ao14 tz1.length co14 : Value).ownBlock) ∧ some k_ ≠ (.slice Ao16 tz32.length co16 : Value).ownBlock) ∧ some k_ ≠ (.slice Ao31 tz3.length co31 : Value).ownBlock)) (n := tz2.length) (c := co22) ?_).2.2; exact (by exact (Kd.R_mono (R4 (Kd.R_types HOz7.out BKz3.out (by decide)) (.int .i64 tz10) (.int .i64 tz11) (.int .i64 tz13) (.slice Ao31 tz3.length co31)) (fun _ h_ => h_.1)))); (case side2 => exact (Kd.R_reads' HOz7.out).2.1); (case side3 => refine (Kd.R_reads' (e := 3) (base := w.heap.size) (ok := fun k_ => ((((True ∧ some k_ ≠ (.slice Ao12 tz0.length co12 : Value).ownBlock) ∧ some k_ ≠ (.slice Ao14 tz1.length co14 : Value).ownBlock) ∧ some k_ ≠ (.slice Ao16 tz32.length co16 : Value).ownBlock) ∧ some k_ ≠ (.slice Ao22 tz2.length co22 : Value).ownBlock)) (n := tz3.length) (c := co31) ?_).2.2; exact (by exact (Kd.R_mono (R4 (Kd.R_types HOz9.out BKz3.out (by decide)) (.int .i64 tz10) (.int .i64 tz11) (.int .i64 tz13) (.slice Ao31 tz3.length co31)) (fun _ h_ => h_.1)))); (case side4 => exact (Kd.R_reads' HOz9.out).2.1); rintro e w42 ⟨rfl, hb⟩; refine ⟨_, rfl, ?_⟩; have n0_ := mk (Kd.Q_below (by exact (Kd.Q_mono (Q4 (Kd.Q_types HOz4.out BKz3.out (by decide)) (.int .i64 tz10) (.int .i64 tz11) (.int .i64 tz13) (.slice Ao31 tz3.length co31)) (fun _ h_ => h_.1))) hb); have n1_ := mk (Kd.Q_below (by exact (Kd.Q_mono (Q4 (Kd.Q_types HOz5.out BKz3.out (by decide)) (.int .i64 tz10) (.int .i64 tz11) (.int .i64 tz13) (.slice Ao31 tz3.length co31)) (fun _ h_ => h_.1))) hb); have n2_ := mk (Kd.N_below (by exact (Kd.N_mono (N4 (Kd.N_mono HOz6.out (fun k_ hk => (⟨hk, hk.2⟩ : _ ∧ k_ ≠ gbz0))) (.int .i64 tz10) (.int .i64 tz11) (.int .i64 tz13) (.slice Ao31 tz3.length co31)) (fun _ h_ => h_.1))) hb); have n4_ := mk (Kd.R_below (by exact (Kd.R_mono (R4 (Kd.R_types HOz7.out BKz3.out (by decide)) (.int .i64 tz10) (.int .i64 tz11) (.int .i64 tz13) (.slice Ao31 tz3.length co31)) (fun _ h_ => h_.1))) hb); have n5_ := mk (Kd.R_below (by exact (Kd.R_mono (R4 (Kd.R_types HOz9.out BKz3.out (by decide)) (.int .i64 tz10) (.int .i64 tz11) (.int .i64 tz13) (.slice Ao31 tz3.length co31)) (fun _ h_ => h_.1))) hb); have n6_ := mk (blk_below (g := gbz4) (o := .cells #[.int .i64 tz4, .int .i64 tz6, .int .i64 tz8, .slice Ao12 tz0.length co12] 27 (0, 0)) (by refine f4 ?_ NBz0.out; exact BKz1.out) hb); have n7_ := mk (blk_below (g := gbz1) (o := .cells #[.int .i64 tz5, .int .i64 tz7, .int .i64 tz9, .slice Ao14 tz1.length co14] 27 (0, 0)) (by refine f4 ?_ NBz1.out; exact BKz0.out) hb); have n8_ := mk (blk_below (g := gbz2) (o := .cells #[.int .i64 tz12, .int .i64 tz14, .int .i64 tz15, .slice Ao22 tz2.length co22] 27 (0, 0)) (by refine f4 ?_ NBz2.out; exact BKz2.out) hb); have n9_ := mk (blk_below (g := gbz0) (o := .cells #[.int .i64 tz10, .int .i64 tz11, .int .i64 tz13, .slice Ao31 tz3.length co31] 27 (0, 0)) (by refine p4 (.int .i64 0) (.int .i64 0) (.int .i64 0) (.slice none 0 0) ?_; exact BKz3.out) hb); have n10_ := mk (below_step (by repeat (with_reducible first | exact HB.out | refine below_set ?_ GEz0.out)) hb); clear HOz4; clear HOz5; clear HOz6; clear HOz8; clear HOz7; clear HOz9; clear BKz1; clear BKz0; clear BKz2; clear BKz3; clear HB; have HOz4 := n0_; have HOz5 := n1_; have HOz6 := n2_; have HOz7 := n4_; have HOz9 := n5_; have BKz1 := n6_; have BKz0 := n7_; have BKz2 := n8_; have BKz3 := n9_; have HB := n10_))
    go_meet
    case rel => exact ⟨_, (true), (by rfl), H', ⟨by omega⟩, ⟨by exact Kd.N_mono HOz6.out (fun _ hk => ⟨hk.1.1.1.1.1.1.1, ⟨hk.1.1.1.1.1.1.2.1, ⟨hk.1.1.1.2, ⟨hk.1.2, ⟨hk.1.1.1.1.1.2, ⟨hk.1.1.1.1.2, ⟨hk.1.1.2, hk.2⟩⟩⟩⟩⟩⟩⟩)⟩, ⟨by exact Kd.Q_mono HOz4.out (fun _ hk => ⟨hk.1.1.1, ⟨hk.1.2, hk.2⟩⟩)⟩, ⟨by exact Kd.Q_mono HOz5.out (fun _ hk => ⟨hk.1.1.1, ⟨hk.1.2, hk.2⟩⟩)⟩, ⟨Kd.Q_of_R (by exact Kd.R_mono HOz7.out (fun _ hk => ⟨hk.1.1.1.2, ⟨hk.1.1.2, hk.2⟩⟩))⟩, ⟨Kd.Q_of_R (by exact Kd.R_mono HOz9.out (fun _ hk => ⟨hk.1.1.1.2, ⟨hk.1.1.2, hk.2⟩⟩))⟩, BKz1, BKz0, BKz2, BKz3, HB⟩
   rw [if_neg c34] at H
   have c34b0 : (tz17 != tz26) = false := by simpa using c34
   (try (have c34b1 : decide (tz17 = tz26) = true := by simpa using c34))
   (try (have c34b2 : (tz17 == tz26) = true := by simpa using c34))
   clear c34
   (skip)
   have H' := mk H
   clear H
   have hnc45 := NBz24.out
   obtain ⟨hcz46_0, hcz46_1, hcz46_2, hcz46_3, -⟩ := c4 BKz2.out
   have hnb47 := NBz22.out
   have hnc47 := NBz0.out
   have hnb48 := NBz23.out
   have hnc48 := NBz1.out
   go_wp2_with (first | ((with_reducible refine gate_callee (f := 26) rfl ?_); refine goesL_ (some 47) rfl rfl Try.func26 (by kernel_rfl) rfl #[.agg #[.int .i64 tz12, .int .i64 tz14, .int .i64 tz15, .slice Ao22 tz2.length co22], .agg #[.int .i64 tz10, .int .i64 tz11, .int .i64 tz13, .slice Ao31 tz3.length co31]] rfl (by (try simp only [bitvec_to_nat]); rfl) ?_; (with_reducible refine (laws_equalImage.calls k tz12 tz14 tz15 _ _ tz2 tz10 tz11 tz13 _ _ tz3 true _ ?side1 ?side2 ?side3 ?side4 A32.out).mono ?_); (case side1 => refine (Kd.R_reads' (e := 3) (base := w.heap.size) (ok := fun k_ => ((((True ∧ some k_ ≠ (.slice Ao12 tz0.length co12 : Value).ownBlock) ∧ some k_ ≠ (.slice Ao14 tz1.length co14 : Value).ownBlock) ∧ some k_ ≠ (.slice Ao16 tz32.length co16 : Value).ownBlock) ∧ some k_ ≠ (.slice Ao31 tz3.length co31 : Value).ownBlock)) (n := tz2.length) (c := co22) ?_).2.2; exact (by exact (Kd.R_mono (R4 (Kd.R_types HOz7.out BKz3.out (by decide)) (.int .i64 tz10) (.int .i64 tz11) (.int .i64 tz13) (.slice Ao31 tz3.length co31)) (fun _ h_ => h_.1)))); (case side2 => exact (Kd.R_reads' HOz7.out).2.1); (case side3 => refine (Kd.R_reads' (e := 3) (base := w.heap.size) (ok := fun k_ => ((((True ∧ some k_ ≠ (.slice Ao12 tz0.length co12 : Value).ownBlock) ∧ some k_ ≠ (.slice Ao14 tz1.length co14 : Value).ownBlock) ∧ some k_ ≠ (.slice Ao16 tz32.length co16 : Value).ownBlock) ∧ some k_ ≠ (.slice Ao22 tz2.length co22 : Value).ownBlock)) (n := tz3.length) (c := co31) ?_).2.2; exact (by exact (Kd.R_mono (R4 (Kd.R_types HOz9.out BKz3.out (by decide)) (.int .i64 tz10) (.int .i64 tz11) (.int .i64 tz13) (.slice Ao31 tz3.length co31)) (fun _ h_ => h_.1)))); (case side4 => exact (Kd.R_reads' HOz9.out).2.1); rintro e w50 ⟨rfl, hb⟩; refine ⟨_, rfl, ?_⟩; have n0_ := mk (Kd.Q_below (by exact (Kd.Q_mono (Q4 (Kd.Q_types HOz4.out BKz3.out (by decide)) (.int .i64 tz10) (.int .i64 tz11) (.int .i64 tz13) (.slice Ao31 tz3.length co31)) (fun _ h_ => h_.1))) hb); have n1_ := mk (Kd.Q_below (by exact (Kd.Q_mono (Q4 (Kd.Q_types HOz5.out BKz3.out (by decide)) (.int .i64 tz10) (.int .i64 tz11) (.int .i64 tz13) (.slice Ao31 tz3.length co31)) (fun _ h_ => h_.1))) hb); have n2_ := mk (Kd.N_below (by exact (Kd.N_mono (N4 (Kd.N_mono HOz6.out (fun k_ hk => (⟨hk, hk.2⟩ : _ ∧ k_ ≠ gbz0))) (.int .i64 tz10) (.int .i64 tz11) (.int .i64 tz13) (.slice Ao31 tz3.length co31)) (fun _ h_ => h_.1))) hb); have n4_ := mk (Kd.R_below (by exact (Kd.R_mono (R4 (Kd.R_types HOz7.out BKz3.out (by decide)) (.int .i64 tz10) (.int .i64 tz11) (.int .i64 tz13) (.slice Ao31 tz3.length co31)) (fun _ h_ => h_.1))) hb); have n5_ := mk (Kd.R_below (by exact (Kd.R_mono (R4 (Kd.R_types HOz9.out BKz3.out (by decide)) (.int .i64 tz10) (.int .i64 tz11) (.int .i64 tz13) (.slice Ao31 tz3.length co31)) (fun _ h_ => h_.1))) hb); have n6_ := mk (blk_below (g := gbz4) (o := .cells #[.int .i64 tz4, .int .i64 tz6, .int .i64 tz8, .slice Ao12 tz0.length co12] 27 (0, 0)) (by refine f4 ?_ NBz0.out; exact BKz1.out) hb); have n7_ := mk (blk_below (g := gbz1) (o := .cells #[.int .i64 tz5, .int .i64 tz7, .int .i64 tz9, .slice Ao14 tz1.length co14] 27 (0, 0)) (by refine f4 ?_ NBz1.out; exact BKz0.out) hb); have n8_ := mk (blk_below (g := gbz2) (o := .cells #[.int .i64 tz12, .int .i64 tz14, .int .i64 tz15, .slice Ao22 tz2.length co22] 27 (0, 0)) (by refine f4 ?_ NBz2.out; exact BKz2.out) hb); have n9_ := mk (blk_below (g := gbz0) (o := .cells #[.int .i64 tz10, .int .i64 tz11, .int .i64 tz13, .slice Ao31 tz3.length co31] 27 (0, 0)) (by refine p4 (.int .i64 0) (.int .i64 0) (.int .i64 0) (.slice none 0 0) ?_; exact BKz3.out) hb); have n10_ := mk (below_step (by repeat (with_reducible first | exact HB.out | refine below_set ?_ GEz0.out)) hb); clear HOz4; clear HOz5; clear HOz6; clear HOz8; clear HOz7; clear HOz9; clear BKz1; clear BKz0; clear BKz2; clear BKz3; clear HB; have HOz4 := n0_; have HOz5 := n1_; have HOz6 := n2_; have HOz7 := n4_; have HOz9 := n5_; have BKz1 := n6_; have BKz0 := n7_; have BKz2 := n8_; have BKz3 := n9_; have HB := n10_))
   go_meet
   case rel => exact ⟨_, (!tz17), (by rfl), H', ⟨by omega⟩, ⟨by exact Kd.N_mono HOz6.out (fun _ hk => ⟨hk.1.1.1.1.1.1.1, ⟨hk.1.1.1.1.1.1.2.1, ⟨hk.1.1.1.2, ⟨hk.1.2, ⟨hk.1.1.1.1.1.2, ⟨hk.1.1.1.1.2, ⟨hk.1.1.2, hk.2⟩⟩⟩⟩⟩⟩⟩)⟩, ⟨by exact Kd.Q_mono HOz4.out (fun _ hk => ⟨hk.1.1.1, ⟨hk.1.2, hk.2⟩⟩)⟩, ⟨by exact Kd.Q_mono HOz5.out (fun _ hk => ⟨hk.1.1.1, ⟨hk.1.2, hk.2⟩⟩)⟩, ⟨Kd.Q_of_R (by exact Kd.R_mono HOz7.out (fun _ hk => ⟨hk.1.1.1.2, ⟨hk.1.1.2, hk.2⟩⟩))⟩, ⟨Kd.Q_of_R (by exact Kd.R_mono HOz9.out (fun _ hk => ⟨hk.1.1.1.2, ⟨hk.1.1.2, hk.2⟩⟩))⟩, BKz1, BKz0, BKz2, BKz3, HB⟩
  replace c33 := Bool.eq_false_iff.mpr c33
  subst c33
  have H1 : (laws_FnRedrawTiles.j0 k tz16 tz17 tz26 true tz4 tz6 tz8 tz0 tz5 tz7 tz9 tz1 tz12 tz14 tz15 tz2 tz10 tz11 tz13 tz3) = some r := by rw [if_neg (show ¬ (false = true) by decide)] at H; exact H
  clear H
  have H := H1
  clear H1
  have H' := mk H
  clear H
  have hnc53 := NBz24.out
  obtain ⟨hcz54_0, hcz54_1, hcz54_2, hcz54_3, -⟩ := c4 BKz2.out
  have hnb55 := NBz22.out
  have hnc55 := NBz0.out
  have hnb56 := NBz23.out
  have hnc56 := NBz1.out
  go_wp2_with (first | ((with_reducible refine gate_callee (f := 26) rfl ?_); refine goesL_ (some 47) rfl rfl Try.func26 (by kernel_rfl) rfl #[.agg #[.int .i64 tz12, .int .i64 tz14, .int .i64 tz15, .slice Ao22 tz2.length co22], .agg #[.int .i64 tz10, .int .i64 tz11, .int .i64 tz13, .slice Ao31 tz3.length co31]] rfl (by (try simp only [bitvec_to_nat]); rfl) ?_; (with_reducible refine (laws_equalImage.calls k tz12 tz14 tz15 _ _ tz2 tz10 tz11 tz13 _ _ tz3 false _ ?side1 ?side2 ?side3 ?side4 A32.out).mono ?_); (case side1 => refine (Kd.R_reads' (e := 3) (base := w.heap.size) (ok := fun k_ => ((((True ∧ some k_ ≠ (.slice Ao12 tz0.length co12 : Value).ownBlock) ∧ some k_ ≠ (.slice Ao14 tz1.length co14 : Value).ownBlock) ∧ some k_ ≠ (.slice Ao16 tz32.length co16 : Value).ownBlock) ∧ some k_ ≠ (.slice Ao31 tz3.length co31 : Value).ownBlock)) (n := tz2.length) (c := co22) ?_).2.2; exact (by exact (Kd.R_mono (R4 (Kd.R_types HOz7.out BKz3.out (by decide)) (.int .i64 tz10) (.int .i64 tz11) (.int .i64 tz13) (.slice Ao31 tz3.length co31)) (fun _ h_ => h_.1)))); (case side2 => exact (Kd.R_reads' HOz7.out).2.1); (case side3 => refine (Kd.R_reads' (e := 3) (base := w.heap.size) (ok := fun k_ => ((((True ∧ some k_ ≠ (.slice Ao12 tz0.length co12 : Value).ownBlock) ∧ some k_ ≠ (.slice Ao14 tz1.length co14 : Value).ownBlock) ∧ some k_ ≠ (.slice Ao16 tz32.length co16 : Value).ownBlock) ∧ some k_ ≠ (.slice Ao22 tz2.length co22 : Value).ownBlock)) (n := tz3.length) (c := co31) ?_).2.2; exact (by exact (Kd.R_mono (R4 (Kd.R_types HOz9.out BKz3.out (by decide)) (.int .i64 tz10) (.int .i64 tz11) (.int .i64 tz13) (.slice Ao31 tz3.length co31)) (fun _ h_ => h_.1)))); (case side4 => exact (Kd.R_reads' HOz9.out).2.1); rintro e w58 ⟨rfl, hb⟩; refine ⟨_, rfl, ?_⟩; have n0_ := mk (Kd.Q_below (by exact (Kd.Q_mono (Q4 (Kd.Q_types HOz4.out BKz3.out (by decide)) (.int .i64 tz10) (.int .i64 tz11) (.int .i64 tz13) (.slice Ao31 tz3.length co31)) (fun _ h_ => h_.1))) hb); have n1_ := mk (Kd.Q_below (by exact (Kd.Q_mono (Q4 (Kd.Q_types HOz5.out BKz3.out (by decide)) (.int .i64 tz10) (.int .i64 tz11) (.int .i64 tz13) (.slice Ao31 tz3.length co31)) (fun _ h_ => h_.1))) hb); have n2_ := mk (Kd.N_below (by exact (Kd.N_mono (N4 (Kd.N_mono HOz6.out (fun k_ hk => (⟨hk, hk.2⟩ : _ ∧ k_ ≠ gbz0))) (.int .i64 tz10) (.int .i64 tz11) (.int .i64 tz13) (.slice Ao31 tz3.length co31)) (fun _ h_ => h_.1))) hb); have n4_ := mk (Kd.R_below (by exact (Kd.R_mono (R4 (Kd.R_types HOz7.out BKz3.out (by decide)) (.int .i64 tz10) (.int .i64 tz11) (.int .i64 tz13) (.slice Ao31 tz3.length co31)) (fun _ h_ => h_.1))) hb); have n5_ := mk (Kd.R_below (by exact (Kd.R_mono (R4 (Kd.R_types HOz9.out BKz3.out (by decide)) (.int .i64 tz10) (.int .i64 tz11) (.int .i64 tz13) (.slice Ao31 tz3.length co31)) (fun _ h_ => h_.1))) hb); have n6_ := mk (blk_below (g := gbz4) (o := .cells #[.int .i64 tz4, .int .i64 tz6, .int .i64 tz8, .slice Ao12 tz0.length co12] 27 (0, 0)) (by refine f4 ?_ NBz0.out; exact BKz1.out) hb); have n7_ := mk (blk_below (g := gbz1) (o := .cells #[.int .i64 tz5, .int .i64 tz7, .int .i64 tz9, .slice Ao14 tz1.length co14] 27 (0, 0)) (by refine f4 ?_ NBz1.out; exact BKz0.out) hb); have n8_ := mk (blk_below (g := gbz2) (o := .cells #[.int .i64 tz12, .int .i64 tz14, .int .i64 tz15, .slice Ao22 tz2.length co22] 27 (0, 0)) (by refine f4 ?_ NBz2.out; exact BKz2.out) hb); have n9_ := mk (blk_below (g := gbz0) (o := .cells #[.int .i64 tz10, .int .i64 tz11, .int .i64 tz13, .slice Ao31 tz3.length co31] 27 (0, 0)) (by refine p4 (.int .i64 0) (.int .i64 0) (.int .i64 0) (.slice none 0 0) ?_; exact BKz3.out) hb); have n10_ := mk (below_step (by repeat (with_reducible first | exact HB.out | refine below_set ?_ GEz0.out)) hb); clear HOz4; clear HOz5; clear HOz6; clear HOz8; clear HOz7; clear HOz9; clear BKz1; clear BKz0; clear BKz2; clear BKz3; clear HB; have HOz4 := n0_; have HOz5 := n1_; have HOz6 := n2_; have HOz7 := n4_; have HOz9 := n5_; have BKz1 := n6_; have BKz0 := n7_; have BKz2 := n8_; have BKz3 := n9_; have HB := n10_))
  go_meet
  case rel => exact ⟨_, (true), (by rfl), H', ⟨by omega⟩, ⟨by exact Kd.N_mono HOz6.out (fun _ hk => ⟨hk.1.1.1.1.1.1.1, ⟨hk.1.1.1.1.1.1.2.1, ⟨hk.1.1.1.2, ⟨hk.1.2, ⟨hk.1.1.1.1.1.2, ⟨hk.1.1.1.1.2, ⟨hk.1.1.2, hk.2⟩⟩⟩⟩⟩⟩⟩)⟩, ⟨by exact Kd.Q_mono HOz4.out (fun _ hk => ⟨hk.1.1.1, ⟨hk.1.2, hk.2⟩⟩)⟩, ⟨by exact Kd.Q_mono HOz5.out (fun _ hk => ⟨hk.1.1.1, ⟨hk.1.2, hk.2⟩⟩)⟩, ⟨Kd.Q_of_R (by exact Kd.R_mono HOz7.out (fun _ hk => ⟨hk.1.1.1.2, ⟨hk.1.1.2, hk.2⟩⟩))⟩, ⟨Kd.Q_of_R (by exact Kd.R_mono HOz9.out (fun _ hk => ⟨hk.1.1.1.2, ⟨hk.1.1.2, hk.2⟩⟩))⟩, BKz1, BKz0, BKz2, BKz3, HB⟩
 case rest =>
  clear HC6
  obtain ⟨kq, x57_5, rfl, HA, HJ5, HO_5, HOz1, HOz0, HOz2, HOz3, BKz1, BKz0, BKz2, BKz3, HB⟩ := hcut
  cases kq with
  | zero => exact absurd HA.out (by simp [laws_FnRedrawTiles.j0])
  | succ kj5 =>
   have H := HA.out
   clear HA
   simp only [laws_FnRedrawTiles.j0] at H
   by_cases c59 : x57_5 = true
   ·subst c59
    have H1 : ((laws_equalImage.f kj5 tz12 tz14 tz15 tz2 tz10 tz11 tz13 tz3).bind fun tz36 => (if tz36 = true then (some (tz17 == tz26)) else (some false))) = some r := by rw [if_pos rfl] at H; exact H
    clear H
    have H := H1
    clear H1
    replace H := Option.bind_eq_some_iff.mp H
    obtain ⟨tz36, A600, H⟩ := H
    replace H : (if tz36 = true then (some (tz17 == tz26)) else (some false)) = some r := H
    have A60 := mk A600
    clear A600
    by_cases c61 : tz36 = true
    ·subst c61
     have H1 : (some (tz17 == tz26)) = some r := by rw [if_pos rfl] at H; exact H
     clear H
     have H := H1
     clear H1
     obtain rfl := Option.some.inj H
     obtain ⟨hcz65_0, hcz65_1, hcz65_2, hcz65_3, -⟩ := c4 BKz2.out
     obtain ⟨hcz68_0, hcz68_1, hcz68_2, hcz68_3, -⟩ := c4 BKz3.out
     go_wp2_with (first | ((with_reducible refine gate_callee (f := 26) rfl ?_); refine goesL_ (some 60) rfl rfl Try.func26 (by kernel_rfl) rfl #[.agg #[.int .i64 tz12, .int .i64 tz14, .int .i64 tz15, .slice Ao22 tz2.length co22], .agg #[.int .i64 tz10, .int .i64 tz11, .int .i64 tz13, .slice Ao31 tz3.length co31]] rfl (by (try simp only [bitvec_to_nat]); rfl) ?_; (with_reducible refine (laws_equalImage.calls kj5 tz12 tz14 tz15 _ _ tz2 tz10 tz11 tz13 _ _ tz3 true _ ?side1 ?side2 ?side3 ?side4 A60.out).mono ?_); (case side1 => repeat (exact (Kd.Q_reads' HOz2.out).2.2)); (case side2 => exact (Kd.Q_reads' HOz2.out).2.1); (case side3 => repeat (exact (Kd.Q_reads' HOz3.out).2.2)); (case side4 => exact (Kd.Q_reads' HOz3.out).2.1); rintro e w69 ⟨rfl, hb⟩; refine ⟨_, rfl, ?_⟩; have n9_ := mk (below_step HB.out hb); clear HO_5; clear HOz1; clear HOz0; clear HOz2; clear HOz3; clear BKz1; clear BKz0; clear BKz2; clear BKz3; clear HB; have HB := n9_))
     go_ret
     exact ⟨by rfl, by exact HB.out⟩
    replace c61 := Bool.eq_false_iff.mpr c61
    subst c61
    have H1 : (some false) = some r := by rw [if_neg (show ¬ (false = true) by decide)] at H; exact H
    clear H
    have H := H1
    clear H1
    exact absurd ((Option.some.inj H).trans HRT.out) (by decide)
   replace c59 := Bool.eq_false_iff.mpr c59
   subst c59
   have H1 : (laws_FnRedrawTiles.l0 kj5 tz16 ([] : List Int) 0 tz4 tz6 tz8 tz0 tz5 tz7 tz9 tz1) = some r := by rw [if_neg (show ¬ (false = true) by decide)] at H; exact H
   clear H
   have H := H1
   clear H1
   obtain ⟨yz0, hyz0⟩ : ∃ y_ : List Int, y_ = ([] : List Int) := ⟨_, rfl⟩
   replace H : (laws_FnRedrawTiles.l0 kj5 tz16 yz0 0 tz4 tz6 tz8 tz0 tz5 tz7 tz9 tz1) = some r := by (rw [hyz0]; with_reducible exact H)
   have Nyz0 := mk hyz0
   clear hyz0
   have H' := mk H
   clear H
   go_wp2_with (first | ((with_reducible refine gate_dst (N := 66) rfl ?_); refine Kd.R_lit (Kd.int .i64) _ 3 ?hg (N := 66) ?hd (xs := ([] : List Int)) (inner := []) (ok := fun _ => True) (okp := fun _ => True) ?hr ?hp (fun _ hk => hk) trivial (Below.refl _ _) (Nat.le_refl _) (by simp) ?_; (case hd => rfl); (case hg => rfl); (case hr => (go_simp; done)); (case hp => exact (Reps.none _ _)); intro vz7 w78 ho79 hb hg_ hnew_; clear hg_ hnew_; (rw [← Nyz0.out] at ho79); replace HO_5 := mk (Kd.N_elder' HO_5.out (Kd.R_base ho79) hb); have HOz14 := mk (Kd.R_lower (Kd.R_new' (Kd.R_new' (Kd.R_new' (Kd.R_new' ho79 (Kd.Q_lt HOz1.out)) (Kd.Q_lt HOz0.out)) (Kd.Q_lt HOz2.out)) (Kd.Q_lt HOz3.out)) (below_size HB.out)); replace HOz1 := mk (Kd.Q_elder' HOz1.out (Kd.R_base ho79) hb); replace HOz0 := mk (Kd.Q_elder' HOz0.out (Kd.R_base ho79) hb); replace HOz2 := mk (Kd.Q_elder' HOz2.out (Kd.R_base ho79) hb); replace HOz3 := mk (Kd.Q_elder' HOz3.out (Kd.R_base ho79) hb); replace BKz1 := mk (blk_below BKz1.out hb); replace BKz0 := mk (blk_below BKz0.out hb); replace BKz2 := mk (blk_below BKz2.out hb); replace BKz3 := mk (blk_below BKz3.out hb); replace HB := mk (below_step HB.out hb); clear hb ho79))
   go_loopg [11, 12] kj5 (fun kq v11 v12 w' => ∃ (x11_2 : List Int) (x12_2 : Int), v12 = .int .i64 x12_2 ∧ Aside0 (laws_FnRedrawTiles.l0 kq tz16 x11_2 x12_2 tz4 tz6 tz8 tz0 tz5 tz7 tz9 tz1 = some r) ∧ Aside0 (kq ≤ kj5) ∧ Aside0 (Kd.N k55 55 w' w.heap.size (fun k_ => some k_ ≠ (v11 : Value).ownBlock ∧ some k_ ≠ ((.slice Ao12 tz0.length co12) : Value).ownBlock ∧ some k_ ≠ ((.slice Ao14 tz1.length co14) : Value).ownBlock ∧ some k_ ≠ ((.slice Ao22 tz2.length co22) : Value).ownBlock ∧ some k_ ≠ ((.slice Ao31 tz3.length co31) : Value).ownBlock ∧ k_ ≠ gbz4 ∧ k_ ≠ gbz1 ∧ k_ ≠ gbz2 ∧ k_ ≠ gbz0) (.slice Ao15 tz16.length co15) tz16) ∧ Aside0 (Kd.R (Kd.int .i64) 3 w' w.heap.size (fun k_ => some k_ ≠ ((.slice Ao12 tz0.length co12) : Value).ownBlock ∧ some k_ ≠ ((.slice Ao14 tz1.length co14) : Value).ownBlock ∧ some k_ ≠ ((.slice Ao22 tz2.length co22) : Value).ownBlock ∧ some k_ ≠ ((.slice Ao31 tz3.length co31) : Value).ownBlock) v11 x11_2) ∧ Aside0 (Kd.Q (Kd.int .i64) 3 w' w.heap.size (fun k_ => some k_ ≠ (v11 : Value).ownBlock ∧ some k_ ≠ ((.slice Ao14 tz1.length co14) : Value).ownBlock ∧ some k_ ≠ ((.slice Ao22 tz2.length co22) : Value).ownBlock ∧ some k_ ≠ ((.slice Ao31 tz3.length co31) : Value).ownBlock) (.slice Ao12 tz0.length co12) tz0) ∧ Aside0 (Kd.Q (Kd.int .i64) 3 w' w.heap.size (fun k_ => some k_ ≠ (v11 : Value).ownBlock ∧ some k_ ≠ ((.slice Ao12 tz0.length co12) : Value).ownBlock ∧ some k_ ≠ ((.slice Ao22 tz2.length co22) : Value).ownBlock ∧ some k_ ≠ ((.slice Ao31 tz3.length co31) : Value).ownBlock) (.slice Ao14 tz1.length co14) tz1) ∧ Aside0 (Kd.Q (Kd.int .i64) 3 w' w.heap.size (fun k_ => some k_ ≠ (v11 : Value).ownBlock ∧ some k_ ≠ ((.slice Ao12 tz0.length co12) : Value).ownBlock ∧ some k_ ≠ ((.slice Ao14 tz1.length co14) : Value).ownBlock ∧ some k_ ≠ ((.slice Ao31 tz3.length co31) : Value).ownBlock) (.slice Ao22 tz2.length co22) tz2) ∧ Aside0 (Kd.Q (Kd.int .i64) 3 w' w.heap.size (fun k_ => some k_ ≠ (v11 : Value).ownBlock ∧ some k_ ≠ ((.slice Ao12 tz0.length co12) : Value).ownBlock ∧ some k_ ≠ ((.slice Ao14 tz1.length co14) : Value).ownBlock ∧ some k_ ≠ ((.slice Ao22 tz2.length co22) : Value).ownBlock) (.slice Ao31 tz3.length co31) tz3) ∧ Aside0 (w'.heap[gbz4]? = some (.cells #[.int .i64 tz4, .int .i64 tz6, .int .i64 tz8, (.slice Ao12 tz0.length co12)] 27 (0, 0))) ∧ Aside0 (w'.heap[gbz1]? = some (.cells #[.int .i64 tz5, .int .i64 tz7, .int .i64 tz9, (.slice Ao14 tz1.length co14)] 27 (0, 0))) ∧ Aside0 (w'.heap[gbz2]? = some (.cells #[.int .i64 tz12, .int .i64 tz14, .int .i64 tz15, (.slice Ao22 tz2.length co22)] 27 (0, 0))) ∧ Aside0 (w'.heap[gbz0]? = some (.cells #[.int .i64 tz10, .int .i64 tz11, .int .i64 tz13, (.slice Ao31 tz3.length co31)] 27 (0, 0))) ∧ Aside0 (Below w.heap.size w w'))
   case atStart => exact ⟨(yz0), (0), (by rfl), H', ⟨Nat.le_refl _⟩, ⟨by exact Kd.N_mono HO_5.out (fun _ hk => ⟨hk.2, ⟨hk.1.1, ⟨hk.1.2.1, ⟨hk.1.2.2.1, ⟨hk.1.2.2.2.1, ⟨hk.1.2.2.2.2.1, ⟨hk.1.2.2.2.2.2.1, ⟨hk.1.2.2.2.2.2.2.1, hk.1.2.2.2.2.2.2.2⟩⟩⟩⟩⟩⟩⟩⟩)⟩, ⟨by exact Kd.R_mono HOz14.out (fun _ hk => ⟨hk.1.1.1.2, ⟨hk.1.1.2, ⟨hk.1.2, hk.2⟩⟩⟩)⟩, ⟨by exact Kd.Q_mono HOz1.out (fun _ hk => ⟨hk.2, ⟨hk.1.1, ⟨hk.1.2.1, hk.1.2.2⟩⟩⟩)⟩, ⟨by exact Kd.Q_mono HOz0.out (fun _ hk => ⟨hk.2, ⟨hk.1.1, ⟨hk.1.2.1, hk.1.2.2⟩⟩⟩)⟩, ⟨by exact Kd.Q_mono HOz2.out (fun _ hk => ⟨hk.2, ⟨hk.1.1, ⟨hk.1.2.1, hk.1.2.2⟩⟩⟩)⟩, ⟨by exact Kd.Q_mono HOz3.out (fun _ hk => ⟨hk.2, ⟨hk.1.1, ⟨hk.1.2.1, hk.1.2.2⟩⟩⟩)⟩, BKz1, BKz0, BKz2, BKz3, HB⟩
   case round =>
    clear H'
    obtain ⟨x11_2, x12_2, rfl, HA, HK2, HO_5, HO_11, HOz1, HOz0, HOz2, HOz3, BKz1, BKz0, BKz2, BKz3, HB⟩ := hrel
    cases gk with
    | zero => exact absurd HA.out (by simp [laws_FnRedrawTiles.l0])
    | succ k2 =>
     have H := HA.out
     clear HA
     simp only [laws_FnRedrawTiles.l0] at H
     replace H := Option.bind_eq_some_iff.mp H
     obtain ⟨tz35, A800, H⟩ := H
     replace H : (if x12_2 < (tz35.length : Int) then (if x11_2.length < 17592186044416 then (laws_FnRedrawTiles.l0 k2 tz16 (x11_2 ++ [x12_2]) (wrap64 (x12_2 + 1)) tz4 tz6 tz8 tz0 tz5 tz7 tz9 tz1) else none) else ((impl_RedrawTiles.f k2 tz4 tz6 tz8 tz0 tz5 tz7 tz9 tz1 tz16 x11_2).bind fun btz5 => ((impl_FlattenLayers.f k2 tz5 tz7 tz9 tz1 tz16).bind fun btz4 => ((impl_RedrawTiles.f k2 tz4 tz6 tz8 tz0 tz5 tz7 tz9 tz1 tz16 ([] : List Int)).bind fun btz3 => (if btz5.2.2.2.2 = true then (if btz4.2.2.2.2 = true then ((laws_equalImage.f k2 btz5.1 btz5.2.1 btz5.2.2.1 btz5.2.2.2.1 btz4.1 btz4.2.1 btz4.2.2.1 btz4.2.2.2.1).bind fun tz33 => (if tz33 = true then (if btz3.2.2.2.2 = true then ((laws_equalImage.f k2 btz3.1 btz3.2.1 btz3.2.2.1 btz3.2.2.2.1 tz4 tz6 tz8 tz0).bind fun tz31 => (some tz31)) else (some false)) else (some false))) else (some false)) else (some false)))))) = some r := H
     have A80 := mk A800
     clear A800
     by_cases c81 : x12_2 < (tz35.length : Int)
     ·rw [if_pos c81] at H
      have c81b0 : decide (x12_2 < (tz35.length : Int)) = true := decide_eq_true c81
      clear c81
      by_cases c82 : x11_2.length < 17592186044416
      ·rw [if_pos c82] at H
       have LMc82 := mk c82
       clear c82
       obtain ⟨yz1, hyz1⟩ : ∃ y_ : List Int, y_ = (x11_2 ++ [x12_2]) := ⟨_, rfl⟩
       replace H : (laws_FnRedrawTiles.l0 k2 tz16 yz1 (wrap64 (x12_2 + 1)) tz4 tz6 tz8 tz0 tz5 tz7 tz9 tz1) = some r := by (rw [hyz1]; with_reducible exact H)
       have Nyz1 := mk hyz1
       clear hyz1
       have H' := mk H
       clear H
       obtain ⟨hcz86_0, hcz86_1, hcz86_2, hcz86_3, -⟩ := c4 BKz0.out
       go_wp2_with (first | ((with_reducible refine gate_callee (f := 29) rfl ?_); refine goesL_ (some 69) rfl rfl Try.func29 (by kernel_rfl) rfl #[.agg #[.int .i64 tz5, .int .i64 tz7, .int .i64 tz9, .slice Ao14 tz1.length co14]] rfl (by (try simp only [bitvec_to_nat]); rfl) ?_; (with_reducible refine (impl_TileBoxes.calls k2 tz5 tz7 tz9 _ _ tz1 tz35 _ ?side1 ?side2 A80.out).mono ?_); (case side1 => repeat (exact (Kd.Q_reads' HOz0.out).2.2)); (case side2 => exact (Kd.Q_reads' HOz0.out).2.1); rintro e w87 ⟨vz3, rfl, ho0, hb⟩; refine ⟨_, rfl, ?_⟩; replace HO_5 := mk (Kd.N_elder' HO_5.out (Kd.R_base ho0) hb); replace HO_11 := mk (Kd.R_below HO_11.out hb); replace HOz1 := mk (Kd.Q_below HOz1.out hb); replace HOz0 := mk (Kd.Q_below HOz0.out hb); replace HOz2 := mk (Kd.Q_below HOz2.out hb); replace HOz3 := mk (Kd.Q_below HOz3.out hb); have HOz10 := mk (Kd.R_lower ho0 (below_size HB.out)); replace BKz1 := mk (blk_below BKz1.out hb); replace BKz0 := mk (blk_below BKz0.out hb); replace BKz2 := mk (blk_below BKz2.out hb); replace BKz3 := mk (blk_below BKz3.out hb); replace HB := mk (below_step HB.out hb); obtain ⟨Ao88, co88, eo88⟩ := Kd.R_slice HOz10.out; subst eo88) | ((with_reducible refine gate_builtin (b := .append) (xs := #[.tmp 74, .tmp 76]) rfl ?_); at_builtin; refine Kd.R_append (Kd.int .i64) (w0 := w) w.heap.size rfl (.tmp 74) (.tmp 76) 22 3 (.int .i64 0) 8 rfl Try.underlying22 info3 rfl (by decide) (by omega) u11 x11_2 x12_2 [.int .i64 x12_2] (fun k_ => some k_ ≠ (.slice Ao12 tz0.length co12 : Value).ownBlock ∧ some k_ ≠ (.slice Ao14 tz1.length co14 : Value).ownBlock ∧ some k_ ≠ (.slice Ao22 tz2.length co22 : Value).ownBlock ∧ some k_ ≠ (.slice Ao31 tz3.length co31 : Value).ownBlock) (fun _ => False) rfl rfl ?aP (fun _ hk => hk.elim) ?aF ?aO ?aB ?aS ?aL ?_; (case aP => exact rfl); (case aB => exact HB.out); (case aF => exact (fun k_ hk => ⟨Kd.fresh' (Kd.Q_lt HOz1.out) k_ hk, Kd.fresh' (Kd.Q_lt HOz0.out) k_ hk, Kd.fresh' (Kd.Q_lt HOz2.out) k_ hk, Kd.fresh' (Kd.Q_lt HOz3.out) k_ hk⟩)); (case aO => exact HO_11.out); (case aS => exact (below_size HB.out)); (case aL => have := LMc82.out; omega); intro vz8 w89 ho hb hg hat; rw [← Nyz1.out] at ho; have n0_ := mk (Kd.N_afterv (ok := (fun k_ => some k_ ≠ (.slice Ao12 tz0.length co12 : Value).ownBlock ∧ some k_ ≠ (.slice Ao14 tz1.length co14 : Value).ownBlock ∧ some k_ ≠ (.slice Ao22 tz2.length co22 : Value).ownBlock ∧ some k_ ≠ (.slice Ao31 tz3.length co31 : Value).ownBlock ∧ some k_ ≠ (.slice Ao88 tz35.length co88 : Value).ownBlock ∧ k_ ≠ gbz4 ∧ k_ ≠ gbz1 ∧ k_ ≠ gbz2 ∧ k_ ≠ gbz0)) (by exact Kd.N_mono HO_5.out (fun _ hk => ⟨⟨hk.1.2.1, ⟨hk.1.2.2.1, ⟨hk.1.2.2.2.1, ⟨hk.1.2.2.2.2.1, ⟨hk.2, ⟨hk.1.2.2.2.2.2.1, ⟨hk.1.2.2.2.2.2.2.1, ⟨hk.1.2.2.2.2.2.2.2.1, hk.1.2.2.2.2.2.2.2.2⟩⟩⟩⟩⟩⟩⟩⟩, hk.1.1⟩)) hg hat); have n1_ := mk (Kd.Q_after (ok := (fun k_ => some k_ ≠ (.slice Ao14 tz1.length co14 : Value).ownBlock ∧ some k_ ≠ (.slice Ao22 tz2.length co22 : Value).ownBlock ∧ some k_ ≠ (.slice Ao31 tz3.length co31 : Value).ownBlock)) (by exact Kd.Q_mono HOz1.out (fun _ hk => ⟨⟨hk.2.1, ⟨hk.2.2.1, hk.2.2.2⟩⟩, hk.1⟩)) hg hat); have n2_ := mk (Kd.Q_after (ok := (fun k_ => some k_ ≠ (.slice Ao12 tz0.length co12 : Value).ownBlock ∧ some k_ ≠ (.slice Ao22 tz2.length co22 : Value).ownBlock ∧ some k_ ≠ (.slice Ao31 tz3.length co31 : Value).ownBlock)) (by exact Kd.Q_mono HOz0.out (fun _ hk => ⟨⟨hk.2.1, ⟨hk.2.2.1, hk.2.2.2⟩⟩, hk.1⟩)) hg hat); have n3_ := mk (Kd.Q_after (ok := (fun k_ => some k_ ≠ (.slice Ao12 tz0.length co12 : Value).ownBlock ∧ some k_ ≠ (.slice Ao14 tz1.length co14 : Value).ownBlock ∧ some k_ ≠ (.slice Ao31 tz3.length co31 : Value).ownBlock)) (by exact Kd.Q_mono HOz2.out (fun _ hk => ⟨⟨hk.2.1, ⟨hk.2.2.1, hk.2.2.2⟩⟩, hk.1⟩)) hg hat); have n4_ := mk (Kd.Q_after (ok := (fun k_ => some k_ ≠ (.slice Ao12 tz0.length co12 : Value).ownBlock ∧ some k_ ≠ (.slice Ao14 tz1.length co14 : Value).ownBlock ∧ some k_ ≠ (.slice Ao22 tz2.length co22 : Value).ownBlock)) (by exact Kd.Q_mono HOz3.out (fun _ hk => ⟨⟨hk.2.1, ⟨hk.2.2.1, hk.2.2.2⟩⟩, hk.1⟩)) hg hat); have n5_ := mk (blk_grown (g := gbz4) (o := .cells #[.int .i64 tz4, .int .i64 tz6, .int .i64 tz8, .slice Ao12 tz0.length co12] 27 (0, 0)) BKz1.out hg (Kd.R_ne HO_11.out BKz1.out (by decide))); have n6_ := mk (blk_grown (g := gbz1) (o := .cells #[.int .i64 tz5, .int .i64 tz7, .int .i64 tz9, .slice Ao14 tz1.length co14] 27 (0, 0)) BKz0.out hg (Kd.R_ne HO_11.out BKz0.out (by decide))); have n7_ := mk (blk_grown (g := gbz2) (o := .cells #[.int .i64 tz12, .int .i64 tz14, .int .i64 tz15, .slice Ao22 tz2.length co22] 27 (0, 0)) BKz2.out hg (Kd.R_ne HO_11.out BKz2.out (by decide))); have n8_ := mk (blk_grown (g := gbz0) (o := .cells #[.int .i64 tz10, .int .i64 tz11, .int .i64 tz13, .slice Ao31 tz3.length co31] 27 (0, 0)) BKz3.out hg (Kd.R_ne HO_11.out BKz3.out (by decide))); have n10_ := mk (hb); have n11_ := mk (ho); clear HO_5; clear HOz1; clear HOz0; clear HOz2; clear HOz3; clear BKz1; clear BKz0; clear BKz2; clear BKz3; clear HOz10; clear HB; clear HO_11; have HO_5 := n0_; have HOz1 := n1_; have HOz0 := n2_; have HOz2 := n3_; have HOz3 := n4_; have BKz1 := n5_; have BKz0 := n6_; have BKz2 := n7_; have BKz3 := n8_; have HB := n10_; have HOz15 := n11_; clear ho hb hg hat))
       go_roundg k2
       case measure => have := HJ5.out; have := HK2.out; omega
       case rel => exact ⟨(yz1), (wrap64 (x12_2 + 1)), (by rfl), H', ⟨by have := HJ5.out; have := HK2.out; omega⟩, ⟨by exact Kd.N_mono HO_5.out (fun _ hk => ⟨hk.2, ⟨hk.1.1, ⟨hk.1.2.1, ⟨hk.1.2.2.1, ⟨hk.1.2.2.2.1, ⟨hk.1.2.2.2.2.2.1, ⟨hk.1.2.2.2.2.2.2.1, ⟨hk.1.2.2.2.2.2.2.2.1, hk.1.2.2.2.2.2.2.2.2⟩⟩⟩⟩⟩⟩⟩⟩)⟩, HOz15, ⟨by exact Kd.Q_mono HOz1.out (fun _ hk => ⟨hk.2, ⟨hk.1.1, ⟨hk.1.2.1, hk.1.2.2⟩⟩⟩)⟩, ⟨by exact Kd.Q_mono HOz0.out (fun _ hk => ⟨hk.2, ⟨hk.1.1, ⟨hk.1.2.1, hk.1.2.2⟩⟩⟩)⟩, ⟨by exact Kd.Q_mono HOz2.out (fun _ hk => ⟨hk.2, ⟨hk.1.1, ⟨hk.1.2.1, hk.1.2.2⟩⟩⟩)⟩, ⟨by exact Kd.Q_mono HOz3.out (fun _ hk => ⟨hk.2, ⟨hk.1.1, ⟨hk.1.2.1, hk.1.2.2⟩⟩⟩)⟩, BKz1, BKz0, BKz2, BKz3, HB⟩
      rw [if_neg c82] at H
      exact absurd H (by simp)
     rw [if_neg c81] at H
     have c81b0 : decide (x12_2 < (tz35.length : Int)) = false := decide_eq_false c81
     clear c81
     replace H := Option.bind_eq_some_iff.mp H
     obtain ⟨⟨tz21, tz23, tz25, tz18, tz38⟩, A900, H⟩ := H
     dsimp only at H
     have A90 := mk A900
     clear A900
     replace H := Option.bind_eq_some_iff.mp H
     obtain ⟨⟨tz20, tz22, tz24, tz19, tz39⟩, A910, H⟩ := H
     dsimp only at H
     have A91 := mk A910
     clear A910
     replace H := Option.bind_eq_some_iff.mp H
     obtain ⟨⟨tz27, tz28, tz30, tz29, tz37⟩, A920, H⟩ := H
     dsimp only at H
     have A92 := mk A920
     clear A920
     by_cases c93 : tz38 = true
     ·subst c93
      have H1 : (if tz39 = true then ((laws_equalImage.f k2 tz21 tz23 tz25 tz18 tz20 tz22 tz24 tz19).bind fun tz33 => (if tz33 = true then (if tz37 = true then ((laws_equalImage.f k2 tz27 tz28 tz30 tz29 tz4 tz6 tz8 tz0).bind fun tz31 => (some tz31)) else (some false)) else (some false))) else (some false)) = some r := by rw [if_pos rfl] at H; exact H
      clear H
      have H := H1
      clear H1
      by_cases c94 : tz39 = true
      ·subst c94
       have H1 : ((laws_equalImage.f k2 tz21 tz23 tz25 tz18 tz20 tz22 tz24 tz19).bind fun tz33 => (if tz33 = true then (if tz37 = true then ((laws_equalImage.f k2 tz27 tz28 tz30 tz29 tz4 tz6 tz8 tz0).bind fun tz31 => (some tz31)) else (some false)) else (some false))) = some r := by rw [if_pos rfl] at H; exact H
       clear H
       have H := H1
       clear H1
       replace H := Option.bind_eq_some_iff.mp H
       obtain ⟨tz33, A950, H⟩ := H
       replace H : (if tz33 = true then (if tz37 = true then ((laws_equalImage.f k2 tz27 tz28 tz30 tz29 tz4 tz6 tz8 tz0).bind fun tz31 => (some tz31)) else (some false)) else (some false)) = some r := H
       have A95 := mk A950
       clear A950
       by_cases c96 : tz33 = true
       ·subst c96
        have H1 : (if tz37 = true then ((laws_equalImage.f k2 tz27 tz28 tz30 tz29 tz4 tz6 tz8 tz0).bind fun tz31 => (some tz31)) else (some false)) = some r := by rw [if_pos rfl] at H; exact H
        clear H
        have H := H1
        clear H1
        by_cases c97 : tz37 = true
        ·subst c97
         have H1 : ((laws_equalImage.f k2 tz27 tz28 tz30 tz29 tz4 tz6 tz8 tz0).bind fun tz31 => (some tz31)) = some r := by rw [if_pos rfl] at H; exact H
         clear H
         have H := H1
         clear H1
         replace H := Option.bind_eq_some_iff.mp H
         obtain ⟨tz31, A980, H⟩ := H
         replace H : (some tz31) = some r := H
         have A98 := mk A980
         clear A980
         obtain rfl := Option.some.inj H
         obtain ⟨hcz102_0, hcz102_1, hcz102_2, hcz102_3, -⟩ := c4 BKz0.out
         go_wp2_with (first | ((with_reducible refine gate_callee (f := 29) rfl ?_); refine goesL_ (some 69) rfl rfl Try.func29 (by kernel_rfl) rfl #[.agg #[.int .i64 tz5, .int .i64 tz7, .int .i64 tz9, .slice Ao14 tz1.length co14]] rfl (by (try simp only [bitvec_to_nat]); rfl) ?_; (with_reducible refine (impl_TileBoxes.calls k2 tz5 tz7 tz9 _ _ tz1 tz35 _ ?side1 ?side2 A80.out).mono ?_); (case side1 => repeat (exact (Kd.Q_reads' HOz0.out).2.2)); (case side2 => exact (Kd.Q_reads' HOz0.out).2.1); rintro e w103 ⟨vz3, rfl, ho0, hb⟩; refine ⟨_, rfl, ?_⟩; replace HO_5 := mk (Kd.N_elder' HO_5.out (Kd.R_base ho0) hb); replace HO_11 := mk (Kd.R_below HO_11.out hb); replace HOz1 := mk (Kd.Q_below HOz1.out hb); replace HOz0 := mk (Kd.Q_below HOz0.out hb); replace HOz2 := mk (Kd.Q_below HOz2.out hb); replace HOz3 := mk (Kd.Q_below HOz3.out hb); have HOz10 := mk (Kd.R_lower ho0 (below_size HB.out)); replace BKz1 := mk (blk_below BKz1.out hb); replace BKz0 := mk (blk_below BKz0.out hb); replace BKz2 := mk (blk_below BKz2.out hb); replace BKz3 := mk (blk_below BKz3.out hb); replace HB := mk (below_step HB.out hb); obtain ⟨Ao104, co104, eo104⟩ := Kd.R_slice HOz10.out; subst eo104; obtain ⟨hcz107_0, hcz107_1, hcz107_2, hcz107_3, -⟩ := c4 BKz1.out; obtain ⟨hcz108_0, hcz108_1, hcz108_2, hcz108_3, -⟩ := c4 BKz0.out; obtain ⟨Ao109, co109, eo109⟩ := Kd.R_slice HO_11.out; subst eo109) | ((with_reducible refine gate_callee (f := 78) rfl ?_); refine goesL_ (some 83) rfl rfl Try.func78 (by kernel_rfl) rfl #[.agg #[.int .i64 tz4, .int .i64 tz6, .int .i64 tz8, .slice Ao12 tz0.length co12], .agg #[.int .i64 tz5, .int .i64 tz7, .int .i64 tz9, .slice Ao14 tz1.length co14], .slice Ao15 tz16.length co15, .slice Ao109 x11_2.length co109] rfl (by (try simp only [bitvec_to_nat]); rfl) ?_; (with_reducible refine (impl_RedrawTiles.calls k2 tz4 tz6 tz8 _ _ tz0 tz5 tz7 tz9 _ _ tz1 _ _ tz16 _ _ x11_2 tz21 tz23 tz25 tz18 true _ ?side1 ?side2 ?side3 ?side4 ?side5 ?side6 ?side7 ?side8 A90.out).mono ?_); (case side1 => repeat (exact (Kd.Q_reads' HOz1.out).2.2)); (case side2 => exact (Kd.Q_reads' HOz1.out).2.1); (case side3 => repeat (exact (Kd.Q_reads' HOz0.out).2.2)); (case side4 => exact (Kd.Q_reads' HOz0.out).2.1); (case side5 => repeat (exact (Kd.N_reads' HO_5.out).2.2)); (case side6 => exact (Kd.N_reads' HO_5.out).2.1); (case side7 => repeat (exact (Kd.R_reads' HO_11.out).2.2)); (case side8 => exact (Kd.R_reads' HO_11.out).2.1); rintro e w110 ⟨vz9, rfl, ho0, hb⟩; refine ⟨_, rfl, ?_⟩; replace HO_5 := mk (Kd.N_elder' HO_5.out (Kd.R_base ho0) hb); replace HOz10 := mk (Kd.R_below HOz10.out hb); have HOz11 := mk (Kd.R_lower (Kd.R_new' (Kd.R_new' (Kd.R_new' (Kd.R_new' (Kd.R_new' ho0 (Kd.R_lt HO_11.out)) (Kd.Q_lt HOz1.out)) (Kd.Q_lt HOz0.out)) (Kd.Q_lt HOz2.out)) (Kd.Q_lt HOz3.out)) (below_size HB.out)); replace HO_11 := mk (Kd.R_elder' HO_11.out (Kd.R_base ho0) hb); replace HOz1 := mk (Kd.Q_elder' HOz1.out (Kd.R_base ho0) hb); replace HOz0 := mk (Kd.Q_elder' HOz0.out (Kd.R_base ho0) hb); replace HOz2 := mk (Kd.Q_elder' HOz2.out (Kd.R_base ho0) hb); replace HOz3 := mk (Kd.Q_elder' HOz3.out (Kd.R_base ho0) hb); replace BKz1 := mk (blk_below BKz1.out hb); replace BKz0 := mk (blk_below BKz0.out hb); replace BKz2 := mk (blk_below BKz2.out hb); replace BKz3 := mk (blk_below BKz3.out hb); replace HB := mk (below_step HB.out hb)) | ((with_reducible refine gate_dst (N := 13) rfl ?_); refine box_event (by rfl) (N := 13) (by rfl) (cs := #[.int .i64 0, .int .i64 0, .int .i64 0, .slice none 0 0]) (t := 27) (by go_simp; done) ?_; intro gbz5 hg w111 hbox hb; replace HO_5 := mk (Kd.N_below (Kd.N_elderB HO_5.out gbz5 (Nat.le_of_eq hg.symm)) hb); replace HO_11 := mk (Kd.R_below HO_11.out hb); replace HOz1 := mk (Kd.Q_below HOz1.out hb); replace HOz0 := mk (Kd.Q_below HOz0.out hb); replace HOz2 := mk (Kd.Q_below HOz2.out hb); replace HOz3 := mk (Kd.Q_below HOz3.out hb); replace HOz10 := mk (Kd.R_below HOz10.out hb); replace HOz11 := mk (Kd.R_below HOz11.out hb); have BKz4 := mk (hbox); have GEz4 := mk ((by rw [hg]; exact (below_size HB.out) : w.heap.size ≤ gbz5)); replace HB := mk (below_step HB.out hb); have NBz17 := mk ((by rw [hg]; exact Nat.ne_of_lt (blk_lt BKz1.out) : gbz4 ≠ gbz5)); replace BKz1 := mk (blk_below BKz1.out hb); have NBz6 := mk ((by rw [hg]; exact Nat.ne_of_lt (blk_lt BKz0.out) : gbz1 ≠ gbz5)); replace BKz0 := mk (blk_below BKz0.out hb); have NBz7 := mk ((by rw [hg]; exact Nat.ne_of_lt (blk_lt BKz2.out) : gbz2 ≠ gbz5)); have NBz26 := mk ((by rw [hg]; exact Nat.ne_of_gt (blk_lt BKz2.out) : gbz5 ≠ gbz2)); replace BKz2 := mk (blk_below BKz2.out hb); have NBz8 := mk ((by rw [hg]; exact Nat.ne_of_lt (blk_lt BKz3.out) : gbz0 ≠ gbz5)); have NBz27 := mk ((by rw [hg]; exact Nat.ne_of_gt (blk_lt BKz3.out) : gbz5 ≠ gbz0)); replace BKz3 := mk (blk_below BKz3.out hb); clear hb hbox hg; have hnc113 := NBz6.out; have hnb114 := NBz26.out; have hnc114 := NBz7.out; have hnb115 := NBz27.out; have hnc115 := NBz8.out; obtain ⟨hcz116_0, hcz116_1, hcz116_2, hcz116_3, hfz116_0, hfz116_1, hfz116_2, hfz116_3⟩ := c4 BKz4.out; obtain ⟨Ao117, co117, eo117⟩ := Kd.R_slice HOz11.out; subst eo117; obtain ⟨hcz118_0, hcz118_1, hcz118_2, -⟩ := c4 BKz0.out; have hcz118_3 : w111.cell? ⟨gbz1, 3, none⟩ = some (.slice Ao14 tz1.length co14) := (blk_cell BKz0.out 3).trans rfl) | ((with_reducible refine gate_callee (f := 67) rfl ?_); refine goesL_ (some 89) rfl rfl Try.func67 (by kernel_rfl) rfl #[.agg #[.int .i64 tz5, .int .i64 tz7, .int .i64 tz9, .slice Ao14 tz1.length co14], .slice Ao15 tz16.length co15] rfl (by (try simp only [bitvec_to_nat]); rfl) ?_; (with_reducible refine (impl_FlattenLayers.calls k2 tz5 tz7 tz9 _ _ tz1 _ _ tz16 tz20 tz22 tz24 tz19 true _ ?side1 ?side2 ?side3 ?side4 A91.out).mono ?_); (case side1 => refine (Kd.Q_reads' (e := 3) (base := w.heap.size) (ok := fun k_ => ((some k_ ≠ (.slice Ao109 x11_2.length co109 : Value).ownBlock ∧ (some k_ ≠ (.slice Ao12 tz0.length co12 : Value).ownBlock ∧ (some k_ ≠ (.slice Ao22 tz2.length co22 : Value).ownBlock ∧ some k_ ≠ (.slice Ao31 tz3.length co31 : Value).ownBlock))) ∧ some k_ ≠ (.slice Ao117 tz18.length co117 : Value).ownBlock)) (n := tz1.length) (c := co14) ?_).2.2; exact (by exact (Kd.Q_mono (Q4 (Kd.Q_types HOz0.out BKz4.out (by decide)) (.int .i64 tz21) (.int .i64 tz23) (.int .i64 tz25) (.slice Ao117 tz18.length co117)) (fun _ h_ => h_.1)))); (case side2 => exact (Kd.Q_reads' HOz0.out).2.1); (case side3 => refine (Kd.N_reads' (e := 55) (base := w.heap.size) (ok := fun k_ => ((((some k_ ≠ (.slice Ao109 x11_2.length co109 : Value).ownBlock ∧ (some k_ ≠ (.slice Ao12 tz0.length co12 : Value).ownBlock ∧ (some k_ ≠ (.slice Ao14 tz1.length co14 : Value).ownBlock ∧ (some k_ ≠ (.slice Ao22 tz2.length co22 : Value).ownBlock ∧ (some k_ ≠ (.slice Ao31 tz3.length co31 : Value).ownBlock ∧ (k_ ≠ gbz4 ∧ (k_ ≠ gbz1 ∧ (k_ ≠ gbz2 ∧ k_ ≠ gbz0)))))))) ∧ some k_ ≠ (.slice Ao104 tz35.length co104 : Value).ownBlock) ∧ some k_ ≠ (.slice Ao117 tz18.length co117 : Value).ownBlock) ∧ k_ ≠ gbz5)) (n := tz16.length) (c := co15) ?_).2.2; exact (by exact (Kd.N_mono (N4 (Kd.N_mono HO_5.out (fun k_ hk => (⟨hk, hk.2⟩ : _ ∧ k_ ≠ gbz5))) (.int .i64 tz21) (.int .i64 tz23) (.int .i64 tz25) (.slice Ao117 tz18.length co117)) (fun _ h_ => h_.1)))); (case side4 => exact (Kd.N_reads' HO_5.out).2.1); rintro e w119 ⟨vz10, rfl, ho0, hb⟩; refine ⟨_, rfl, ?_⟩; replace HO_5 := mk (Kd.N_elder' (by exact (Kd.N_mono (N4 (Kd.N_mono HO_5.out (fun k_ hk => (⟨hk, hk.2⟩ : _ ∧ k_ ≠ gbz5))) (.int .i64 tz21) (.int .i64 tz23) (.int .i64 tz25) (.slice Ao117 tz18.length co117)) (fun _ h_ => h_.1))) (Kd.R_base ho0) hb); replace HOz10 := mk (Kd.R_below (by exact (Kd.R_mono (R4 (Kd.R_types HOz10.out BKz4.out (by decide)) (.int .i64 tz21) (.int .i64 tz23) (.int .i64 tz25) (.slice Ao117 tz18.length co117)) (fun _ h_ => h_.1))) hb); have HOz12 := mk (Kd.R_lower (Kd.R_new' (Kd.R_new' (Kd.R_new' (Kd.R_new' (Kd.R_new' (Kd.R_new' ho0 (Kd.R_lt (by exact (Kd.R_mono (R4 (Kd.R_types HO_11.out BKz4.out (by decide)) (.int .i64 tz21) (.int .i64 tz23) (.int .i64 tz25) (.slice Ao117 tz18.length co117)) (fun _ h_ => h_.1))))) (Kd.Q_lt (by exact (Kd.Q_mono (Q4 (Kd.Q_types HOz1.out BKz4.out (by decide)) (.int .i64 tz21) (.int .i64 tz23) (.int .i64 tz25) (.slice Ao117 tz18.length co117)) (fun _ h_ => h_.1))))) (Kd.Q_lt (by exact (Kd.Q_mono (Q4 (Kd.Q_types HOz0.out BKz4.out (by decide)) (.int .i64 tz21) (.int .i64 tz23) (.int .i64 tz25) (.slice Ao117 tz18.length co117)) (fun _ h_ => h_.1))))) (Kd.Q_lt (by exact (Kd.Q_mono (Q4 (Kd.Q_types HOz2.out BKz4.out (by decide)) (.int .i64 tz21) (.int .i64 tz23) (.int .i64 tz25) (.slice Ao117 tz18.length co117)) (fun _ h_ => h_.1))))) (Kd.Q_lt (by exact (Kd.Q_mono (Q4 (Kd.Q_types HOz3.out BKz4.out (by decide)) (.int .i64 tz21) (.int .i64 tz23) (.int .i64 tz25) (.slice Ao117 tz18.length co117)) (fun _ h_ => h_.1))))) (Kd.R_lt (by exact (Kd.R_mono (R4 (Kd.R_types HOz11.out BKz4.out (by decide)) (.int .i64 tz21) (.int .i64 tz23) (.int .i64 tz25) (.slice Ao117 tz18.length co117)) (fun _ h_ => h_.1))))) (below_size (by repeat (with_reducible first | exact HB.out | refine below_set ?_ GEz4.out)))); replace HO_11 := mk (Kd.R_elder' (by exact (Kd.R_mono (R4 (Kd.R_types HO_11.out BKz4.out (by decide)) (.int .i64 tz21) (.int .i64 tz23) (.int .i64 tz25) (.slice Ao117 tz18.length co117)) (fun _ h_ => h_.1))) (Kd.R_base ho0) hb); replace HOz1 := mk (Kd.Q_elder' (by exact (Kd.Q_mono (Q4 (Kd.Q_types HOz1.out BKz4.out (by decide)) (.int .i64 tz21) (.int .i64 tz23) (.int .i64 tz25) (.slice Ao117 tz18.length co117)) (fun _ h_ => h_.1))) (Kd.R_base ho0) hb); replace HOz0 := mk (Kd.Q_elder' (by exact (Kd.Q_mono (Q4 (Kd.Q_types HOz0.out BKz4.out (by decide)) (.int .i64 tz21) (.int .i64 tz23) (.int .i64 tz25) (.slice Ao117 tz18.length co117)) (fun _ h_ => h_.1))) (Kd.R_base ho0) hb); replace HOz2 := mk (Kd.Q_elder' (by exact (Kd.Q_mono (Q4 (Kd.Q_types HOz2.out BKz4.out (by decide)) (.int .i64 tz21) (.int .i64 tz23) (.int .i64 tz25) (.slice Ao117 tz18.length co117)) (fun _ h_ => h_.1))) (Kd.R_base ho0) hb); replace HOz3 := mk (Kd.Q_elder' (by exact (Kd.Q_mono (Q4 (Kd.Q_types HOz3.out BKz4.out (by decide)) (.int .i64 tz21) (.int .i64 tz23) (.int .i64 tz25) (.slice Ao117 tz18.length co117)) (fun _ h_ => h_.1))) (Kd.R_base ho0) hb); replace HOz11 := mk (Kd.R_elder' (by exact (Kd.R_mono (R4 (Kd.R_types HOz11.out BKz4.out (by decide)) (.int .i64 tz21) (.int .i64 tz23) (.int .i64 tz25) (.slice Ao117 tz18.length co117)) (fun _ h_ => h_.1))) (Kd.R_base ho0) hb); replace BKz1 := mk (blk_below (g := gbz4) (o := .cells #[.int .i64 tz4, .int .i64 tz6, .int .i64 tz8, .slice Ao12 tz0.length co12] 27 (0, 0)) (by refine f4 ?_ NBz17.out; exact BKz1.out) hb); replace BKz0 := mk (blk_below (g := gbz1) (o := .cells #[.int .i64 tz5, .int .i64 tz7, .int .i64 tz9, .slice Ao14 tz1.length co14] 27 (0, 0)) (by refine f4 ?_ NBz6.out; exact BKz0.out) hb); replace BKz2 := mk (blk_below (g := gbz2) (o := .cells #[.int .i64 tz12, .int .i64 tz14, .int .i64 tz15, .slice Ao22 tz2.length co22] 27 (0, 0)) (by refine f4 ?_ NBz7.out; exact BKz2.out) hb); replace BKz3 := mk (blk_below (g := gbz0) (o := .cells #[.int .i64 tz10, .int .i64 tz11, .int .i64 tz13, .slice Ao31 tz3.length co31] 27 (0, 0)) (by refine f4 ?_ NBz8.out; exact BKz3.out) hb); replace BKz4 := mk (blk_below (g := gbz5) (o := .cells #[.int .i64 tz21, .int .i64 tz23, .int .i64 tz25, .slice Ao117 tz18.length co117] 27 (0, 0)) (by refine p4 (.int .i64 0) (.int .i64 0) (.int .i64 0) (.slice none 0 0) ?_; exact BKz4.out) hb); replace HB := mk (below_step (by repeat (with_reducible first | exact HB.out | refine below_set ?_ GEz4.out)) hb)) | ((with_reducible refine gate_dst (N := 15) rfl ?_); refine box_event (by rfl) (N := 15) (by rfl) (cs := #[.int .i64 0, .int .i64 0, .int .i64 0, .slice none 0 0]) (t := 27) (by go_simp; done) ?_; intro gbz3 hg w120 hbox hb; replace HO_5 := mk (Kd.N_below (Kd.N_elderB HO_5.out gbz3 (Nat.le_of_eq hg.symm)) hb); replace HO_11 := mk (Kd.R_below HO_11.out hb); replace HOz1 := mk (Kd.Q_below HOz1.out hb); replace HOz0 := mk (Kd.Q_below HOz0.out hb); replace HOz2 := mk (Kd.Q_below HOz2.out hb); replace HOz3 := mk (Kd.Q_below HOz3.out hb); replace HOz10 := mk (Kd.R_below HOz10.out hb); replace HOz11 := mk (Kd.R_below HOz11.out hb); replace HOz12 := mk (Kd.R_below HOz12.out hb); have BKz5 := mk (hbox); have GEz5 := mk ((by rw [hg]; exact (below_size HB.out) : w.heap.size ≤ gbz3)); replace HB := mk (below_step HB.out hb); have NBz9 := mk ((by rw [hg]; exact Nat.ne_of_lt (blk_lt BKz1.out) : gbz4 ≠ gbz3)); replace BKz1 := mk (blk_below BKz1.out hb); have NBz10 := mk ((by rw [hg]; exact Nat.ne_of_lt (blk_lt BKz0.out) : gbz1 ≠ gbz3)); have NBz28 := mk ((by rw [hg]; exact Nat.ne_of_gt (blk_lt BKz0.out) : gbz3 ≠ gbz1)); replace BKz0 := mk (blk_below BKz0.out hb); have NBz11 := mk ((by rw [hg]; exact Nat.ne_of_lt (blk_lt BKz2.out) : gbz2 ≠ gbz3)); have NBz29 := mk ((by rw [hg]; exact Nat.ne_of_gt (blk_lt BKz2.out) : gbz3 ≠ gbz2)); replace BKz2 := mk (blk_below BKz2.out hb); have NBz12 := mk ((by rw [hg]; exact Nat.ne_of_lt (blk_lt BKz3.out) : gbz0 ≠ gbz3)); have NBz30 := mk ((by rw [hg]; exact Nat.ne_of_gt (blk_lt BKz3.out) : gbz3 ≠ gbz0)); replace BKz3 := mk (blk_below BKz3.out hb); have NBz13 := mk ((by rw [hg]; exact Nat.ne_of_lt (blk_lt BKz4.out) : gbz5 ≠ gbz3)); have NBz31 := mk ((by rw [hg]; exact Nat.ne_of_gt (blk_lt BKz4.out) : gbz3 ≠ gbz5)); replace BKz4 := mk (blk_below BKz4.out hb); clear hb hbox hg; have hnc121 := NBz9.out; have hnb122 := NBz28.out; have hnc122 := NBz10.out; have hnb123 := NBz29.out; have hnc123 := NBz11.out; have hnb124 := NBz30.out; have hnc124 := NBz12.out; have hnb125 := NBz31.out; have hnc125 := NBz13.out; obtain ⟨hcz126_0, hcz126_1, hcz126_2, hcz126_3, hfz126_0, hfz126_1, hfz126_2, hfz126_3⟩ := c4 BKz5.out; obtain ⟨Ao127, co127, eo127⟩ := Kd.R_slice HOz12.out; subst eo127; obtain ⟨hcz128_0, hcz128_1, hcz128_2, hcz128_3, -⟩ := c4 BKz1.out; obtain ⟨hcz129_0, hcz129_1, hcz129_2, -⟩ := c4 BKz0.out; have hcz129_3 : w120.cell? ⟨gbz1, 3, none⟩ = some (.slice Ao14 tz1.length co14) := (blk_cell BKz0.out 3).trans rfl) | ((with_reducible refine gate_callee (f := 78) rfl ?_); refine goesL_ (some 96) rfl rfl Try.func78 (by kernel_rfl) rfl #[.agg #[.int .i64 tz4, .int .i64 tz6, .int .i64 tz8, .slice Ao12 tz0.length co12], .agg #[.int .i64 tz5, .int .i64 tz7, .int .i64 tz9, .slice Ao14 tz1.length co14], .slice Ao15 tz16.length co15, .slice none 0 0] rfl (by (try simp only [bitvec_to_nat]); rfl) ?_; (refine (impl_RedrawTiles.calls k2 tz4 tz6 tz8 _ _ tz0 tz5 tz7 tz9 _ _ tz1 _ _ tz16 _ _ ([] : List Int) tz27 tz28 tz30 tz29 true _ ?side1 ?side2 ?side3 ?side4 ?side5 ?side6 ?side7 ?side8 A92.out).mono ?_); (case side1 => refine (Kd.Q_reads' (e := 3) (base := w.heap.size) (ok := fun k_ => (((some k_ ≠ (.slice Ao109 x11_2.length co109 : Value).ownBlock ∧ (some k_ ≠ (.slice Ao14 tz1.length co14 : Value).ownBlock ∧ (some k_ ≠ (.slice Ao22 tz2.length co22 : Value).ownBlock ∧ some k_ ≠ (.slice Ao31 tz3.length co31 : Value).ownBlock))) ∧ some k_ ≠ (.slice Ao117 tz18.length co117 : Value).ownBlock) ∧ some k_ ≠ (.slice Ao127 tz19.length co127 : Value).ownBlock)) (n := tz0.length) (c := co12) ?_).2.2; exact (by exact (Kd.Q_mono (Q4 (Kd.Q_types HOz1.out BKz5.out (by decide)) (.int .i64 tz20) (.int .i64 tz22) (.int .i64 tz24) (.slice Ao127 tz19.length co127)) (fun _ h_ => h_.1)))); (case side2 => exact (Kd.Q_reads' HOz1.out).2.1); (case side3 => refine (Kd.Q_reads' (e := 3) (base := w.heap.size) (ok := fun k_ => (((some k_ ≠ (.slice Ao109 x11_2.length co109 : Value).ownBlock ∧ (some k_ ≠ (.slice Ao12 tz0.length co12 : Value).ownBlock ∧ (some k_ ≠ (.slice Ao22 tz2.length co22 : Value).ownBlock ∧ some k_ ≠ (.slice Ao31 tz3.length co31 : Value).ownBlock))) ∧ some k_ ≠ (.slice Ao117 tz18.length co117 : Value).ownBlock) ∧ some k_ ≠ (.slice Ao127 tz19.length co127 : Value).ownBlock)) (n := tz1.length) (c := co14) ?_).2.2; exact (by exact (Kd.Q_mono (Q4 (Kd.Q_types HOz0.out BKz5.out (by decide)) (.int .i64 tz20) (.int .i64 tz22) (.int .i64 tz24) (.slice Ao127 tz19.length co127)) (fun _ h_ => h_.1)))); (case side4 => exact (Kd.Q_reads' HOz0.out).2.1); (case side5 => refine (Kd.N_reads' (e := 55) (base := w.heap.size) (ok := fun k_ => ((((((some k_ ≠ (.slice Ao109 x11_2.length co109 : Value).ownBlock ∧ (some k_ ≠ (.slice Ao12 tz0.length co12 : Value).ownBlock ∧ (some k_ ≠ (.slice Ao14 tz1.length co14 : Value).ownBlock ∧ (some k_ ≠ (.slice Ao22 tz2.length co22 : Value).ownBlock ∧ (some k_ ≠ (.slice Ao31 tz3.length co31 : Value).ownBlock ∧ (k_ ≠ gbz4 ∧ (k_ ≠ gbz1 ∧ (k_ ≠ gbz2 ∧ k_ ≠ gbz0)))))))) ∧ some k_ ≠ (.slice Ao104 tz35.length co104 : Value).ownBlock) ∧ some k_ ≠ (.slice Ao117 tz18.length co117 : Value).ownBlock) ∧ k_ ≠ gbz5) ∧ some k_ ≠ (.slice Ao127 tz19.length co127 : Value).ownBlock) ∧ k_ ≠ gbz3)) (n := tz16.length) (c := co15) ?_).2.2; exact (by exact (Kd.N_mono (N4 (Kd.N_mono HO_5.out (fun k_ hk => (⟨hk, hk.2⟩ : _ ∧ k_ ≠ gbz3))) (.int .i64 tz20) (.int .i64 tz22) (.int .i64 tz24) (.slice Ao127 tz19.length co127)) (fun _ h_ => h_.1)))); (case side6 => exact (Kd.N_reads' HO_5.out).2.1); (case side7 => exact Kd.C_nil _ _); (case side8 => exact Nat.le_refl _); rintro e w130 ⟨vz11, rfl, ho0, hb⟩; refine ⟨_, rfl, ?_⟩; replace HO_5 := mk (Kd.N_elder' (by exact (Kd.N_mono (N4 (Kd.N_mono HO_5.out (fun k_ hk => (⟨hk, hk.2⟩ : _ ∧ k_ ≠ gbz3))) (.int .i64 tz20) (.int .i64 tz22) (.int .i64 tz24) (.slice Ao127 tz19.length co127)) (fun _ h_ => h_.1))) (Kd.R_base ho0) hb); replace HOz10 := mk (Kd.R_below (by exact (Kd.R_mono (R4 (Kd.R_types HOz10.out BKz5.out (by decide)) (.int .i64 tz20) (.int .i64 tz22) (.int .i64 tz24) (.slice Ao127 tz19.length co127)) (fun _ h_ => h_.1))) hb); have HOz13 := mk (Kd.R_lower (Kd.R_new' (Kd.R_new' (Kd.R_new' (Kd.R_new' (Kd.R_new' (Kd.R_new' (Kd.R_new' ho0 (Kd.R_lt (by exact (Kd.R_mono (R4 (Kd.R_types HO_11.out BKz5.out (by decide)) (.int .i64 tz20) (.int .i64 tz22) (.int .i64 tz24) (.slice Ao127 tz19.length co127)) (fun _ h_ => h_.1))))) (Kd.Q_lt (by exact (Kd.Q_mono (Q4 (Kd.Q_types HOz1.out BKz5.out (by decide)) (.int .i64 tz20) (.int .i64 tz22) (.int .i64 tz24) (.slice Ao127 tz19.length co127)) (fun _ h_ => h_.1))))) (Kd.Q_lt (by exact (Kd.Q_mono (Q4 (Kd.Q_types HOz0.out BKz5.out (by decide)) (.int .i64 tz20) (.int .i64 tz22) (.int .i64 tz24) (.slice Ao127 tz19.length co127)) (fun _ h_ => h_.1))))) (Kd.Q_lt (by exact (Kd.Q_mono (Q4 (Kd.Q_types HOz2.out BKz5.out (by decide)) (.int .i64 tz20) (.int .i64 tz22) (.int .i64 tz24) (.slice Ao127 tz19.length co127)) (fun _ h_ => h_.1))))) (Kd.Q_lt (by exact (Kd.Q_mono (Q4 (Kd.Q_types HOz3.out BKz5.out (by decide)) (.int .i64 tz20) (.int .i64 tz22) (.int .i64 tz24) (.slice Ao127 tz19.length co127)) (fun _ h_ => h_.1))))) (Kd.R_lt (by exact (Kd.R_mono (R4 (Kd.R_types HOz11.out BKz5.out (by decide)) (.int .i64 tz20) (.int .i64 tz22) (.int .i64 tz24) (.slice Ao127 tz19.length co127)) (fun _ h_ => h_.1))))) (Kd.R_lt (by exact (Kd.R_mono (R4 (Kd.R_types HOz12.out BKz5.out (by decide)) (.int .i64 tz20) (.int .i64 tz22) (.int .i64 tz24) (.slice Ao127 tz19.length co127)) (fun _ h_ => h_.1))))) (below_size (by repeat (with_reducible first | exact HB.out | refine below_set ?_ GEz5.out)))); replace HO_11 := mk (Kd.R_elder' (by exact (Kd.R_mono (R4 (Kd.R_types HO_11.out BKz5.out (by decide)) (.int .i64 tz20) (.int .i64 tz22) (.int .i64 tz24) (.slice Ao127 tz19.length co127)) (fun _ h_ => h_.1))) (Kd.R_base ho0) hb); replace HOz1 := mk (Kd.Q_elder' (by exact (Kd.Q_mono (Q4 (Kd.Q_types HOz1.out BKz5.out (by decide)) (.int .i64 tz20) (.int .i64 tz22) (.int .i64 tz24) (.slice Ao127 tz19.length co127)) (fun _ h_ => h_.1))) (Kd.R_base ho0) hb); replace HOz0 := mk (Kd.Q_elder' (by exact (Kd.Q_mono (Q4 (Kd.Q_types HOz0.out BKz5.out (by decide)) (.int .i64 tz20) (.int .i64 tz22) (.int .i64 tz24) (.slice Ao127 tz19.length co127)) (fun _ h_ => h_.1))) (Kd.R_base ho0) hb); replace HOz2 := mk (Kd.Q_elder' (by exact (Kd.Q_mono (Q4 (Kd.Q_types HOz2.out BKz5.out (by decide)) (.int .i64 tz20) (.int .i64 tz22) (.int .i64 tz24) (.slice Ao127 tz19.length co127)) (fun _ h_ => h_.1))) (Kd.R_base ho0) hb); replace HOz3 := mk (Kd.Q_elder' (by exact (Kd.Q_mono (Q4 (Kd.Q_types HOz3.out BKz5.out (by decide)) (.int .i64 tz20) (.int .i64 tz22) (.int .i64 tz24) (.slice Ao127 tz19.length co127)) (fun _ h_ => h_.1))) (Kd.R_base ho0) hb); replace HOz11 := mk (Kd.R_elder' (by exact (Kd.R_mono (R4 (Kd.R_types HOz11.out BKz5.out (by decide)) (.int .i64 tz20) (.int .i64 tz22) (.int .i64 tz24) (.slice Ao127 tz19.length co127)) (fun _ h_ => h_.1))) (Kd.R_base ho0) hb); replace HOz12 := mk (Kd.R_elder' (by exact (Kd.R_mono (R4 (Kd.R_types HOz12.out BKz5.out (by decide)) (.int .i64 tz20) (.int .i64 tz22) (.int .i64 tz24) (.slice Ao127 tz19.length co127)) (fun _ h_ => h_.1))) (Kd.R_base ho0) hb); replace BKz1 := mk (blk_below (g := gbz4) (o := .cells #[.int .i64 tz4, .int .i64 tz6, .int .i64 tz8, .slice Ao12 tz0.length co12] 27 (0, 0)) (by refine f4 ?_ NBz9.out; exact BKz1.out) hb); replace BKz0 := mk (blk_below (g := gbz1) (o := .cells #[.int .i64 tz5, .int .i64 tz7, .int .i64 tz9, .slice Ao14 tz1.length co14] 27 (0, 0)) (by refine f4 ?_ NBz10.out; exact BKz0.out) hb); replace BKz2 := mk (blk_below (g := gbz2) (o := .cells #[.int .i64 tz12, .int .i64 tz14, .int .i64 tz15, .slice Ao22 tz2.length co22] 27 (0, 0)) (by refine f4 ?_ NBz11.out; exact BKz2.out) hb); replace BKz3 := mk (blk_below (g := gbz0) (o := .cells #[.int .i64 tz10, .int .i64 tz11, .int .i64 tz13, .slice Ao31 tz3.length co31] 27 (0, 0)) (by refine f4 ?_ NBz12.out; exact BKz3.out) hb); replace BKz4 := mk (blk_below (g := gbz5) (o := .cells #[.int .i64 tz21, .int .i64 tz23, .int .i64 tz25, .slice Ao117 tz18.length co117] 27 (0, 0)) (by refine f4 ?_ NBz13.out; exact BKz4.out) hb); replace BKz5 := mk (blk_below (g := gbz3) (o := .cells #[.int .i64 tz20, .int .i64 tz22, .int .i64 tz24, .slice Ao127 tz19.length co127] 27 (0, 0)) (by refine p4 (.int .i64 0) (.int .i64 0) (.int .i64 0) (.slice none 0 0) ?_; exact BKz5.out) hb); replace HB := mk (below_step (by repeat (with_reducible first | exact HB.out | refine below_set ?_ GEz5.out)) hb)) | ((with_reducible refine gate_dst (N := 17) rfl ?_); refine box_event (by rfl) (N := 17) (by rfl) (cs := #[.int .i64 0, .int .i64 0, .int .i64 0, .slice none 0 0]) (t := 27) (by go_simp; done) ?_; intro gbz6 hg w131 hbox hb; replace HO_5 := mk (Kd.N_below (Kd.N_elderB HO_5.out gbz6 (Nat.le_of_eq hg.symm)) hb); replace HO_11 := mk (Kd.R_below HO_11.out hb); replace HOz1 := mk (Kd.Q_below HOz1.out hb); replace HOz0 := mk (Kd.Q_below HOz0.out hb); replace HOz2 := mk (Kd.Q_below HOz2.out hb); replace HOz3 := mk (Kd.Q_below HOz3.out hb); replace HOz10 := mk (Kd.R_below HOz10.out hb); replace HOz11 := mk (Kd.R_below HOz11.out hb); replace HOz12 := mk (Kd.R_below HOz12.out hb); replace HOz13 := mk (Kd.R_below HOz13.out hb); have BKz6 := mk (hbox); have GEz6 := mk ((by rw [hg]; exact (below_size HB.out) : w.heap.size ≤ gbz6)); replace HB := mk (below_step HB.out hb); have NBz18 := mk ((by rw [hg]; exact Nat.ne_of_lt (blk_lt BKz1.out) : gbz4 ≠ gbz6)); replace BKz1 := mk (blk_below BKz1.out hb); have NBz19 := mk ((by rw [hg]; exact Nat.ne_of_lt (blk_lt BKz0.out) : gbz1 ≠ gbz6)); replace BKz0 := mk (blk_below BKz0.out hb); have NBz20 := mk ((by rw [hg]; exact Nat.ne_of_lt (blk_lt BKz2.out) : gbz2 ≠ gbz6)); replace BKz2 := mk (blk_below BKz2.out hb); have NBz21 := mk ((by rw [hg]; exact Nat.ne_of_lt (blk_lt BKz3.out) : gbz0 ≠ gbz6)); replace BKz3 := mk (blk_below BKz3.out hb); have NBz14 := mk ((by rw [hg]; exact Nat.ne_of_lt (blk_lt BKz4.out) : gbz5 ≠ gbz6)); replace BKz4 := mk (blk_below BKz4.out hb); have NBz15 := mk ((by rw [hg]; exact Nat.ne_of_lt (blk_lt BKz5.out) : gbz3 ≠ gbz6)); have NBz32 := mk ((by rw [hg]; exact Nat.ne_of_gt (blk_lt BKz5.out) : gbz6 ≠ gbz3)); replace BKz5 := mk (blk_below BKz5.out hb); clear hb hbox hg; have hnc136 := NBz14.out; have hnb137 := NBz32.out; have hnc137 := NBz15.out; obtain ⟨hcz138_0, hcz138_1, hcz138_2, hcz138_3, hfz138_0, hfz138_1, hfz138_2, hfz138_3⟩ := c4 BKz6.out; obtain ⟨Ao139, co139, eo139⟩ := Kd.R_slice HOz13.out; subst eo139; obtain ⟨hcz140_0, hcz140_1, hcz140_2, hcz140_3, -⟩ := c4 BKz4.out; obtain ⟨hcz141_0, hcz141_1, hcz141_2, -⟩ := c4 BKz5.out; have hcz141_3 : w131.cell? ⟨gbz3, 3, none⟩ = some (.slice Ao127 tz19.length co127) := (blk_cell BKz5.out 3).trans rfl) | (go_at_call 26; (with_reducible refine (laws_equalImage.calls k2 tz21 tz23 tz25 _ _ tz18 tz20 tz22 tz24 _ _ tz19 true _ ?side1 ?side2 ?side3 ?side4 A95.out).mono ?_); (case side1 => refine (Kd.R_reads' (e := 3) (base := w.heap.size) (ok := fun k_ => (((((((True ∧ some k_ ≠ (.slice Ao109 x11_2.length co109 : Value).ownBlock) ∧ some k_ ≠ (.slice Ao12 tz0.length co12 : Value).ownBlock) ∧ some k_ ≠ (.slice Ao14 tz1.length co14 : Value).ownBlock) ∧ some k_ ≠ (.slice Ao22 tz2.length co22 : Value).ownBlock) ∧ some k_ ≠ (.slice Ao31 tz3.length co31 : Value).ownBlock) ∧ some k_ ≠ (.slice Ao127 tz19.length co127 : Value).ownBlock) ∧ some k_ ≠ (.slice Ao139 tz29.length co139 : Value).ownBlock)) (n := tz18.length) (c := co117) ?_).2.2; exact (by exact (Kd.R_mono (R4 (Kd.R_types HOz11.out BKz6.out (by decide)) (.int .i64 tz27) (.int .i64 tz28) (.int .i64 tz30) (.slice Ao139 tz29.length co139)) (fun _ h_ => h_.1)))); (case side2 => exact (Kd.R_reads' HOz11.out).2.1); (case side3 => refine (Kd.R_reads' (e := 3) (base := w.heap.size) (ok := fun k_ => (((((((True ∧ some k_ ≠ (.slice Ao109 x11_2.length co109 : Value).ownBlock) ∧ some k_ ≠ (.slice Ao12 tz0.length co12 : Value).ownBlock) ∧ some k_ ≠ (.slice Ao14 tz1.length co14 : Value).ownBlock) ∧ some k_ ≠ (.slice Ao22 tz2.length co22 : Value).ownBlock) ∧ some k_ ≠ (.slice Ao31 tz3.length co31 : Value).ownBlock) ∧ some k_ ≠ (.slice Ao117 tz18.length co117 : Value).ownBlock) ∧ some k_ ≠ (.slice Ao139 tz29.length co139 : Value).ownBlock)) (n := tz19.length) (c := co127) ?_).2.2; exact (by exact (Kd.R_mono (R4 (Kd.R_types HOz12.out BKz6.out (by decide)) (.int .i64 tz27) (.int .i64 tz28) (.int .i64 tz30) (.slice Ao139 tz29.length co139)) (fun _ h_ => h_.1)))); (case side4 => exact (Kd.R_reads' HOz12.out).2.1); rintro e w142 ⟨rfl, hb⟩; replace HO_5 := mk (Kd.N_below (by exact (Kd.N_mono (N4 (Kd.N_mono HO_5.out (fun k_ hk => (⟨hk, hk.2⟩ : _ ∧ k_ ≠ gbz6))) (.int .i64 tz27) (.int .i64 tz28) (.int .i64 tz30) (.slice Ao139 tz29.length co139)) (fun _ h_ => h_.1))) hb); replace HO_11 := mk (Kd.R_below (by exact (Kd.R_mono (R4 (Kd.R_types HO_11.out BKz6.out (by decide)) (.int .i64 tz27) (.int .i64 tz28) (.int .i64 tz30) (.slice Ao139 tz29.length co139)) (fun _ h_ => h_.1))) hb); replace HOz1 := mk (Kd.Q_below (by exact (Kd.Q_mono (Q4 (Kd.Q_types HOz1.out BKz6.out (by decide)) (.int .i64 tz27) (.int .i64 tz28) (.int .i64 tz30) (.slice Ao139 tz29.length co139)) (fun _ h_ => h_.1))) hb); replace HOz0 := mk (Kd.Q_below (by exact (Kd.Q_mono (Q4 (Kd.Q_types HOz0.out BKz6.out (by decide)) (.int .i64 tz27) (.int .i64 tz28) (.int .i64 tz30) (.slice Ao139 tz29.length co139)) (fun _ h_ => h_.1))) hb); replace HOz2 := mk (Kd.Q_below (by exact (Kd.Q_mono (Q4 (Kd.Q_types HOz2.out BKz6.out (by decide)) (.int .i64 tz27) (.int .i64 tz28) (.int .i64 tz30) (.slice Ao139 tz29.length co139)) (fun _ h_ => h_.1))) hb); replace HOz3 := mk (Kd.Q_below (by exact (Kd.Q_mono (Q4 (Kd.Q_types HOz3.out BKz6.out (by decide)) (.int .i64 tz27) (.int .i64 tz28) (.int .i64 tz30) (.slice Ao139 tz29.length co139)) (fun _ h_ => h_.1))) hb); replace HOz10 := mk (Kd.R_below (by exact (Kd.R_mono (R4 (Kd.R_types HOz10.out BKz6.out (by decide)) (.int .i64 tz27) (.int .i64 tz28) (.int .i64 tz30) (.slice Ao139 tz29.length co139)) (fun _ h_ => h_.1))) hb); replace HOz11 := mk (Kd.R_below (by exact (Kd.R_mono (R4 (Kd.R_types HOz11.out BKz6.out (by decide)) (.int .i64 tz27) (.int .i64 tz28) (.int .i64 tz30) (.slice Ao139 tz29.length co139)) (fun _ h_ => h_.1))) hb); replace HOz12 := mk (Kd.R_below (by exact (Kd.R_mono (R4 (Kd.R_types HOz12.out BKz6.out (by decide)) (.int .i64 tz27) (.int .i64 tz28) (.int .i64 tz30) (.slice Ao139 tz29.length co139)) (fun _ h_ => h_.1))) hb); replace HOz13 := mk (Kd.R_below (by exact (Kd.R_mono (R4 (Kd.R_types HOz13.out BKz6.out (by decide)) (.int .i64 tz27) (.int .i64 tz28) (.int .i64 tz30) (.slice Ao139 tz29.length co139)) (fun _ h_ => h_.1))) hb); replace BKz1 := mk (blk_below (g := gbz4) (o := .cells #[.int .i64 tz4, .int .i64 tz6, .int .i64 tz8, .slice Ao12 tz0.length co12] 27 (0, 0)) (by refine f4 ?_ NBz18.out; exact BKz1.out) hb); replace BKz0 := mk (blk_below (g := gbz1) (o := .cells #[.int .i64 tz5, .int .i64 tz7, .int .i64 tz9, .slice Ao14 tz1.length co14] 27 (0, 0)) (by refine f4 ?_ NBz19.out; exact BKz0.out) hb); replace BKz2 := mk (blk_below (g := gbz2) (o := .cells #[.int .i64 tz12, .int .i64 tz14, .int .i64 tz15, .slice Ao22 tz2.length co22] 27 (0, 0)) (by refine f4 ?_ NBz20.out; exact BKz2.out) hb); replace BKz3 := mk (blk_below (g := gbz0) (o := .cells #[.int .i64 tz10, .int .i64 tz11, .int .i64 tz13, .slice Ao31 tz3.length co31] 27 (0, 0)) (by refine f4 ?_ NBz21.out; exact BKz3.out) hb); replace BKz4 := mk (blk_below (g := gbz5) (o := .cells #[.int .i64 tz21, .int .i64 tz23, .int .i64 tz25, .slice Ao117 tz18.length co117] 27 (0, 0)) (by refine f4 ?_ NBz14.out; exact BKz4.out) hb); replace BKz5 := mk (blk_below (g := gbz3) (o := .cells #[.int .i64 tz20, .int .i64 tz22, .int .i64 tz24, .slice Ao127 tz19.length co127] 27 (0, 0)) (by refine f4 ?_ NBz15.out; exact BKz5.out) hb); replace BKz6 := mk (blk_below (g := gbz6) (o := .cells #[.int .i64 tz27, .int .i64 tz28, .int .i64 tz30, .slice Ao139 tz29.length co139] 27 (0, 0)) (by refine p4 (.int .i64 0) (.int .i64 0) (.int .i64 0) (.slice none 0 0) ?_; exact BKz6.out) hb); replace HB := mk (below_step (by repeat (with_reducible first | exact HB.out | refine below_set ?_ GEz6.out)) hb); obtain ⟨hcz143_0, hcz143_1, hcz143_2, hcz143_3, -⟩ := c4 BKz6.out; obtain ⟨hcz144_0, hcz144_1, hcz144_2, -⟩ := c4 BKz1.out; have hcz144_3 : w142.cell? ⟨gbz4, 3, none⟩ = some (.slice Ao12 tz0.length co12) := (blk_cell BKz1.out 3).trans rfl) | (go_at_call 26; (with_reducible refine (laws_equalImage.calls k2 tz27 tz28 tz30 _ _ tz29 tz4 tz6 tz8 _ _ tz0 tz31 _ ?side1 ?side2 ?side3 ?side4 A98.out).mono ?_); (case side1 => repeat (exact (Kd.R_reads' HOz13.out).2.2)); (case side2 => exact (Kd.R_reads' HOz13.out).2.1); (case side3 => repeat (exact (Kd.Q_reads' HOz1.out).2.2)); (case side4 => exact (Kd.Q_reads' HOz1.out).2.1); rintro e w145 ⟨rfl, hb⟩; have n17_ := mk (below_step HB.out hb); clear HO_5; clear HO_11; clear HOz1; clear HOz0; clear HOz2; clear HOz3; clear HOz10; clear HOz11; clear HOz12; clear HOz13; clear BKz1; clear BKz0; clear BKz2; clear BKz3; clear BKz4; clear BKz5; clear BKz6; clear HB; have HB := n17_))
         go_ret
         exact ⟨by rfl, by exact HB.out⟩
        replace c97 := Bool.eq_false_iff.mpr c97
        subst c97
        have H1 : (some false) = some r := by rw [if_neg (show ¬ (false = true) by decide)] at H; exact H
        clear H
        have H := H1
        clear H1
        exact absurd ((Option.some.inj H).trans HRT.out) (by decide)
       replace c96 := Bool.eq_false_iff.mpr c96
       subst c96
       have H1 : (some false) = some r := by rw [if_neg (show ¬ (false = true) by decide)] at H; exact H
       clear H
       have H := H1
       clear H1
       exact absurd ((Option.some.inj H).trans HRT.out) (by decide)
      replace c94 := Bool.eq_false_iff.mpr c94
      subst c94
      have H1 : (some false) = some r := by rw [if_neg (show ¬ (false = true) by decide)] at H; exact H
      clear H
      have H := H1
      clear H1
      exact absurd ((Option.some.inj H).trans HRT.out) (by decide)
     replace c93 := Bool.eq_false_iff.mpr c93
     subst c93
     have H1 : (some false) = some r := by rw [if_neg (show ¬ (false = true) by decide)] at H; exact H
     clear H
     have H := H1
     clear H1
     exact absurd ((Option.some.inj H).trans HRT.out) (by decide)

def laws_FnRedrawTiles.Pure : Prop := ∀ (l0 : List Int), l0.length ≤ maxLen → l0.length * 1 ≤ 140737488351232 → (∀ x ∈ l0, (Lit.int .u8 x).wf = true) → ∃ k, laws_FnRedrawTiles.f k l0 = some true
theorem laws_FnRedrawTiles.walk (P : laws_FnRedrawTiles.Pure) (a0 : Option Addr) (len0 cap0 : Nat) (z0 : List Int) (w : World) (w0 : (a0 = none ∧ len0 = 0 ∧ cap0 = 0 ∧ z0 = []) ∨ ∃ x, a0 = some x ∧ len0 ≤ cap0 ∧ cap0 ≤ maxLen ∧ z0.length = cap0 ∧ (∀ i, i < z0.length → w.cell? (x.add i) = some (.int .u8 (z0.getD i 0))) ∧ ∀ n ∈ z0, (Lit.int .u8 n).wf = true) (y0 : len0 * 1 ≤ 140737488351232) :
  Calls Try.prog 19 #[.slice a0 len0 cap0] w fun e w' => e = .returned (.bool true) ∧ Below w.heap.size w w' := by
 obtain ⟨l0, rfl, hr0, hm0, hw0, hc0⟩ := ReadsInt.ofRowC w0
 obtain ⟨k, h⟩ := P l0 hm0 y0 hw0
 refine (laws_FnRedrawTiles.calls k _ _ l0 true w (Kd.C_of_reads (d := (0 : Int)) (h1 := fun _ => rfl) hr0) hc0 h rfl).mono ?_
 rintro e w' ⟨rfl, hd⟩
 exact ⟨rfl, hd⟩

end Go.Proofs.Ytnofkbbcbpjhfaa.Q

/- Images as pixels: lists of numbers cut into equal parts. -/
namespace Go.Proofs.Ytnofkbbcbpjhfaa.Pure
open Go.RowKit Go.Proofs.Ytnofkbbcbpjhfaa.Q Go.Proofs.YtnofkbbcbpjhfaaW.PrintWords Go.Proofs.YtnofkbbcbpjhfaaW.PrintLast Go.Proofs.YtnofkbbcbpjhfaaW.PrintMore
set_option linter.unusedVariables false
set_option linter.unusedSimpArgs false

def nx (n : Nat) (d : List Int) (i : Nat) : List Int := (d.drop (i * n)).take n
theorem nx_length {n m : Nat} {d : List Int} (hd : d.length = m * n) {i : Nat} (hi : i < m) : (nx n d i).length = n := by
 unfold nx
 have h : (i + 1) * n ≤ m * n := Nat.mul_le_mul_right n hi
 rw [Nat.add_mul, Nat.one_mul] at h
 rw [List.length_take, List.length_drop, hd]
 omega
theorem fm_length (f : Nat → List Int) (n : Nat) : ∀ m, (∀ i, i < m → (f i).length = n) → ((List.range m).flatMap f).length = m * n := by
 intro m
 induction m with
 | zero => intro _; simp
 | succ m ih =>
  intro h
  rw [List.range_succ, List.flatMap_append, List.length_append, ih (fun i hi => h i (by omega))]
  simp [h m (by omega), Nat.add_mul]
theorem fm_get (f : Nat → List Int) (n : Nat) : ∀ m, (∀ i, i < m → (f i).length = n) → ∀ i, i < m → nx n ((List.range m).flatMap f) i = f i := by
 intro m
 induction m with
 | zero => intro _ i hi; omega
 | succ m ih =>
  intro h i hi
  have hl := fm_length f n m (fun i hi => h i (by omega))
  rw [List.range_succ, List.flatMap_append]
  unfold nx
  by_cases c : i < m
  ·have h1 : (i + 1) * n ≤ m * n := Nat.mul_le_mul_right n c
   rw [Nat.add_mul, Nat.one_mul] at h1
   rw [List.drop_append_of_le_length (by omega), List.take_append_of_le_length (by rw [List.length_drop]; omega)]
   exact ih (fun i hi => h i (by omega)) i c
  ·have : i = m := by omega
   subst this
   rw [← hl, List.drop_left]
   simp only [List.flatMap_cons, List.flatMap_nil, List.append_nil]
   exact List.take_of_length_le (by rw [h i (by omega)]; exact Nat.le_refl _)
theorem fm_cut (n : Nat) : ∀ (m : Nat) (d : List Int), d.length = m * n → (List.range m).flatMap (nx n d) = d := by
 intro m
 induction m with
 | zero => intro d hd; simp at hd; simp [hd]
 | succ m ih =>
  intro d hd
  rw [Nat.add_mul, Nat.one_mul] at hd
  have h1 : (List.range m).flatMap (nx n d) = (List.range m).flatMap (nx n (d.take (m * n))) := by
   rw [List.flatMap_def, List.flatMap_def]
   congr 1
   refine List.map_congr_left (fun i hi => ?_)
   have hi' := List.mem_range.1 hi
   have h1 : (i + 1) * n ≤ m * n := Nat.mul_le_mul_right n hi'
   rw [Nat.add_mul, Nat.one_mul] at h1
   unfold nx
   rw [List.drop_take, List.take_take, Nat.min_eq_left (by omega)]
  rw [List.range_succ, List.flatMap_append, h1, ih _ (by rw [List.length_take]; omega)]
  simp only [List.flatMap_cons, List.flatMap_nil, List.append_nil]
  unfold nx
  rw [List.take_of_length_le (l := d.drop (m * n)) (by rw [List.length_drop]; omega), List.take_append_drop]
theorem ext_nx {n m : Nat} {d e : List Int} (hd : d.length = m * n) (he : e.length = m * n) (h : ∀ i, i < m → nx n d i = nx n e i) : d = e := by
 rw [← fm_cut n m d hd, ← fm_cut n m e he, List.flatMap_def, List.flatMap_def]
 congr 1
 exact List.map_congr_left (fun i hi => h i (List.mem_range.1 hi))
theorem imgD_congr {f g : Nat → Nat → List Int} {a b : Nat} (h : ∀ x y, x < a → y < b → f x y = g x y) : imgD f a b = imgD g a b := by
 unfold imgD rowD
 rw [List.flatMap_def, List.flatMap_def]
 congr 1
 refine List.map_congr_left (fun y hy => ?_)
 rw [List.flatMap_def, List.flatMap_def]
 congr 1
 exact List.map_congr_left (fun x hx => h x y (List.mem_range.1 hx) (List.mem_range.1 hy))
theorem rowD_length {px : Nat → Nat → List Int} {a n y : Nat} (h : ∀ x, x < a → (px x y).length = n) : (rowD px a y).length = a * n := fm_length _ n a h
theorem imgD_length {px : Nat → Nat → List Int} {a b n : Nat} (h : ∀ x y, x < a → y < b → (px x y).length = n) : (imgD px a b).length = (b * a) * n := by
 rw [Nat.mul_assoc]
 exact fm_length _ (a * n) b (fun y hy => rowD_length (fun x hx => h x y hx hy))
theorem nx_imgD {px : Nat → Nat → List Int} {a b n : Nat} (h : ∀ x y, x < a → y < b → (px x y).length = n) {x y : Nat} (hx : x < a) (hy : y < b) : nx n (imgD px a b) (y * a + x) = px x y := by
 have h1 := fm_get (rowD px a) (a * n) b (fun y hy => rowD_length (fun x hx => h x y hx hy)) y hy
 have h2 := fm_get (fun x => px x y) n a (fun x hx => h x y hx hy) x hx
 have h3 : (x + 1) * n ≤ a * n := Nat.mul_le_mul_right n hx
 rw [Nat.add_mul, Nat.one_mul] at h3
 show nx n ((List.range b).flatMap (rowD px a)) (y * a + x) = px x y
 rw [← h2]
 show _ = nx n (rowD px a y) x
 rw [← h1]
 unfold nx
 rw [List.drop_take, List.take_take, Nat.min_eq_left (by omega), List.drop_drop, Nat.add_mul, Nat.mul_assoc]
theorem lin_lt {a b x y : Nat} (hx : x < a) (hy : y < b) : y * a + x < b * a := by
 have : (y + 1) * a ≤ b * a := Nat.mul_le_mul_right a hy
 rw [Nat.add_mul, Nat.one_mul] at this
 omega
theorem lin_ne {a x y x' y' : Nat} (hx : x < a) (hx' : x' < a) (h : y * a + x = y' * a + x') : x = x' ∧ y = y' := by
 have ha : 0 < a := by omega
 have e1 := congrArg (· % a) h
 have e2 := congrArg (· / a) h
 simp only [Nat.mul_comm _ a, Nat.mul_add_mod, Nat.mul_add_div ha, Nat.mod_eq_of_lt hx, Nat.mod_eq_of_lt hx', Nat.div_eq_of_lt hx, Nat.div_eq_of_lt hx', Nat.add_zero] at e1 e2
 exact ⟨e1, e2⟩
theorem lin_of {a b i : Nat} (h : i < b * a) : i % a < a ∧ i / a < b ∧ (i / a) * a + i % a = i := by
 have ha : 0 < a := by
  rcases Nat.eq_zero_or_pos a with rfl | h'
  ·simp at h
  ·exact h'
 refine ⟨Nat.mod_lt _ ha, (Nat.div_lt_iff_lt_mul ha).2 h, ?_⟩
 rw [Nat.mul_comm]; exact Nat.div_add_mod i a
theorem ext_img {n a b : Nat} {d e : List Int} (hd : d.length = (b * a) * n) (he : e.length = (b * a) * n) (h : ∀ x y, x < a → y < b → nx n d (y * a + x) = nx n e (y * a + x)) : d = e := by
 refine ext_nx hd he (fun i hi => ?_)
 obtain ⟨h1, h2, h3⟩ := lin_of hi
 rw [← h3]
 exact h _ _ h1 h2
theorem nx_laid {n m : Nat} {d ys : List Int} (hd : d.length = m * n) (hy : ys.length = n) {j : Nat} (hj : j < m) {i : Nat} (hi : i < m) : nx n (laidOver d (j * n) ys) i = if i = j then ys else nx n d i := by
 have hj1 : (j + 1) * n ≤ m * n := Nat.mul_le_mul_right n hj
 have hi1 : (i + 1) * n ≤ m * n := Nat.mul_le_mul_right n hi
 rw [Nat.add_mul, Nat.one_mul] at hj1 hi1
 unfold nx laidOver
 have hlt : (d.take (j * n)).length = j * n := by rw [List.length_take]; omega
 by_cases c : i = j
 ·subst c
  rw [if_pos rfl]
  have e1 : (d.take (i * n) ++ (ys ++ d.drop (i * n + ys.length))).drop (i * n) = ys ++ d.drop (i * n + ys.length) := by
   rw [List.drop_append, List.drop_eq_nil_of_le (by omega), hlt, Nat.sub_self, List.drop_zero, List.nil_append]
  rw [e1, ← hy, List.take_left]
 ·rw [if_neg c]
  by_cases c2 : i < j
  ·have h1 : (i + 1) * n ≤ j * n := Nat.mul_le_mul_right n c2
   rw [Nat.add_mul, Nat.one_mul] at h1
   rw [List.drop_append_of_le_length (by omega), List.take_append_of_le_length (by rw [List.length_drop]; omega), List.drop_take, List.take_take, Nat.min_eq_left (by omega)]
  ·have h1 : (j + 1) * n ≤ i * n := Nat.mul_le_mul_right n (by omega)
   rw [Nat.add_mul, Nat.one_mul] at h1
   rw [← List.append_assoc, List.drop_append, List.drop_eq_nil_of_le (by rw [List.length_append, hlt, hy]; omega), List.nil_append, List.drop_drop, List.length_append, hlt, hy]
   congr 2
   omega
theorem nat_of {a b p : Int} {d : List Int} (hv : validI a b p d = true) : ∃ an bn pn : Nat, a = an ∧ b = bn ∧ p = pn ∧ 1 ≤ an ∧ an ≤ 16 ∧ 1 ≤ bn ∧ bn ≤ 16 ∧ 1 ≤ pn ∧ pn ≤ 4 ∧ d.length = (bn * an) * pn := by
 obtain ⟨hs, hl, _⟩ := (validI_iff a b p d).1 hv
 obtain ⟨an, rfl⟩ := Int.eq_ofNat_of_zero_le (show 0 ≤ a by omega)
 obtain ⟨bn, rfl⟩ := Int.eq_ofNat_of_zero_le (show 0 ≤ b by omega)
 obtain ⟨pn, rfl⟩ := Int.eq_ofNat_of_zero_le (show 0 ≤ p by omega)
 refine ⟨an, bn, pn, rfl, rfl, rfl, by omega, by omega, by omega, by omega, by omega, by omega, ?_⟩
 have : (d.length : Int) = ((an * bn * pn : Nat) : Int) := by rw [hl]; push_cast; rfl
 rw [Nat.mul_comm bn an]
 exact Int.ofNat.inj this
theorem small {an bn pn : Nat} (h1 : an ≤ 16) (h2 : bn ≤ 16) (h3 : pn ≤ 4) : (bn * an) * pn ≤ 1024 := by
 have := Nat.mul_le_mul (Nat.mul_le_mul h2 h1) h3
 omega
theorem pixJ_nat {an bn pn x y : Nat} (h1 : an ≤ 16) (h2 : bn ≤ 16) (h3 : pn ≤ 4) (hx : x < an) (hy : y < bn) : pixJ an pn x y = (((y * an + x) * pn : Nat) : Int) ∧ (y * an + x) * pn + pn ≤ (bn * an) * pn := by
 have hl := lin_lt hx hy
 have hm : (y * an + x + 1) * pn ≤ (bn * an) * pn := Nat.mul_le_mul_right pn hl
 rw [Nat.add_mul, Nat.one_mul] at hm
 have hs := small h1 h2 h3
 have hya : y * an ≤ 16 * 16 := Nat.mul_le_mul (by omega) (by omega)
 refine ⟨?_, hm⟩
 unfold pixJ
 have e1 : ((y : Int) * (an : Int)) = ((y * an : Nat) : Int) := by push_cast; rfl
 rw [e1, w64 (x := ((y * an : Nat) : Int)) (by omega) (by omega)]
 have e2 : ((y * an : Nat) : Int) + (x : Int) = ((y * an + x : Nat) : Int) := by push_cast; rfl
 rw [e2, w64 (x := ((y * an + x : Nat) : Int)) (by omega) (by omega)]
 have e3 : ((y * an + x : Nat) : Int) * (pn : Int) = (((y * an + x) * pn : Nat) : Int) := by push_cast; rfl
 rw [e3, w64 (by omega) (by omega)]
theorem pxAt_nat {an bn pn x y : Nat} (h1 : an ≤ 16) (h2 : bn ≤ 16) (h3 : pn ≤ 4) (hx : x < an) (hy : y < bn) (d : List Int) : pxAt an pn d x y = nx pn d (y * an + x) := by
 obtain ⟨hj, hm⟩ := pixJ_nat h1 h2 h3 hx hy
 have hs := small h1 h2 h3
 unfold pxAt pixT nx
 rw [hj, w64 (by omega) (by omega)]
 have : ((((y * an + x) * pn : Nat) : Int) + (pn : Int)).toNat = (y * an + x) * pn + pn := by omega
 rw [this, Int.toNat_natCast, List.drop_take]
 congr 1
 omega

/- What the reference does with pixels: reads, writes, parts and pastes. -/

theorem ev_run {σ ρ : Type} (n : Nat) (L : Nat → Nat → σ → Option ρ) (E : σ → Nat → Option ρ) (Inv : Nat → σ → Prop)
  (step : ∀ i s, i < n → Inv i s → ∃ s', Inv (i + 1) s' ∧ ∀ r, Ev (fun k => L k (i + 1) s') r → Ev (fun k => L k i s) r)
  (last : ∀ s, Inv n s → ∀ r, Ev (E s) r → Ev (fun k => L k n s) r) :
  ∀ d i s, i + d = n → Inv i s → ∃ s', Inv n s' ∧ ∀ r, Ev (E s') r → Ev (fun k => L k i s) r := by
 intro d
 induction d with
 | zero =>
  intro i s hi hinv
  have : i = n := by omega
  subst this
  exact ⟨s, hinv, last s hinv⟩
 | succ d ih =>
  intro i s hi hinv
  obtain ⟨s1, h1, h2⟩ := step i s (by omega) hinv
  obtain ⟨s2, h3, h4⟩ := ih (i + 1) s1 (by omega) h1
  exact ⟨s2, h3, fun r hr => h2 r (h4 r hr)⟩
theorem copyInts_px (l : List Int) (hl : l.length ≤ 1000000) : spec_copyInts.f l = some l := by
 unfold spec_copyInts.f
 simp only [Option.bind_some]
 rw [if_pos (by simp; omega)]
 simp
theorem laid_set (d ys : List Int) (j i : Nat) (hi : i < ys.length) (hj : j + ys.length ≤ d.length) : (laidOver d j (ys.take i)).set (j + i) ys[i] = laidOver d j (ys.take (i + 1)) := by
 have h1 : (ys.take i).length = i := by rw [List.length_take]; omega
 have h2 : (ys.take (i + 1)).length = i + 1 := by rw [List.length_take]; omega
 have h3 : (d.take j).length = j := by rw [List.length_take]; omega
 unfold laidOver
 rw [h1, h2, List.set_append_right _ _ (by omega), h3, Nat.add_sub_cancel_left, List.set_append_right _ _ (by omega), h1, Nat.sub_self, List.drop_eq_getElem_cons (show j + i < d.length by omega), List.set_cons_zero, List.take_succ_eq_append_getElem hi, List.append_assoc]
 rfl
theorem setPixel_ev {an bn pn x y : Nat} (h1 : an ≤ 16) (h2 : bn ≤ 16) (h3 : pn ≤ 4) (hx : x < an) (hy : y < bn) (d ys : List Int) (hd : d.length = (bn * an) * pn) (hys : ys.length = pn) :
  Ev (fun k => spec_setPixel.f k an bn pn d x y ys) (laidOver d ((y * an + x) * pn) ys) := by
 obtain ⟨hj, hm⟩ := pixJ_nat h1 h2 h3 hx hy
 have hs := small h1 h2 h3
 have hJ : wrap64 ((wrap64 ((wrap64 ((y : Int) * (an : Int))) + (x : Int))) * (pn : Int)) = (((y * an + x) * pn : Nat) : Int) := hj
 generalize hjj : (y * an + x) * pn = j at *
 have HJ := Aside0.mk hJ
 clear hJ hj hjj
 have key := ev_up pn (fun k i s => spec_setPixel.l0 k (x : Int) (y : Int) ys (i : Int) an bn pn s) (fun i s => s = laidOver d j (ys.take i)) (fun _ _ => laidOver d j ys)
  (by
   intro i s hi hinv
   subst hinv
   right
   refine ⟨_, fun k => ?_, laid_set d ys j i (by omega) (by omega), rfl⟩
   simp only [spec_setPixel.l0]
   have e : (((j : Nat) : Int) + (i : Int)) = ((j + i : Nat) : Int) := by push_cast; rfl
   have hl : (laidOver d j (ys.take i)).length = d.length := laidOver_length d j _ (by rw [List.length_take]; omega)
   rw [HJ.out, e, w64 (x := ((j + i : Nat) : Int)) (by omega) (by omega), hl, if_pos (by omega), if_pos (by omega), if_pos (by omega), if_pos (by omega), if_pos (by omega), rd_nat ys i (by omega), w64n i (by omega), Int.toNat_natCast])
  (by
   intro s hinv
   subst hinv
   refine Ev.step (f := fun _ => some (laidOver d j ys)) (fun k => ?_) (Ev.now _)
   simp only [spec_setPixel.l0]
   rw [if_neg (by omega), List.take_of_length_le (by omega)])
  pn 0 d (by omega) (by unfold laidOver; simp)
 unfold spec_setPixel.f
 exact key
theorem pixelAt_eq {an bn pn x y : Nat} (h1 : an ≤ 16) (h2 : bn ≤ 16) (h3 : pn ≤ 4) (hx : x < an) (hy : y < bn) (d : List Int) (hd : d.length = (bn * an) * pn) : spec_pixelAt.f an bn pn d x y = some (nx pn d (y * an + x)) := by
 obtain ⟨hj, hm⟩ := pixJ_nat h1 h2 h3 hx hy
 have hs := small h1 h2 h3
 have hJ : wrap64 ((wrap64 ((wrap64 ((y : Int) * (an : Int))) + (x : Int))) * (pn : Int)) = (((y * an + x) * pn : Nat) : Int) := hj
 have e : ((((y * an + x) * pn : Nat) : Int) + (pn : Int)) = (((y * an + x) * pn + pn : Nat) : Int) := by push_cast; rfl
 have HJ := Aside0.mk hJ
 clear hJ hj
 unfold spec_pixelAt.f nx
 generalize (y * an + x) * pn = j at *
 rw [HJ.out, e, w64 (x := ((j + pn : Nat) : Int)) (by omega) (by omega), if_pos (by omega), if_pos (by omega), if_pos (by omega), Int.toNat_natCast, Int.toNat_natCast, copyInts_px _ (by rw [List.length_drop, List.length_take]; omega)]
 simp only [Option.bind_some]
 congr 1
 rw [List.drop_take]
 congr 1
 omega
theorem newImg_eq {wn hn pn : Nat} (h1 : wn ≤ 16) (h2 : hn ≤ 16) (h3 : pn ≤ 4) : spec_newImage.f wn hn pn = some ((wn : Int), (hn : Int), (pn : Int), List.replicate ((hn * wn) * pn) 0) := by
 have hs := small h1 h2 h3
 have hw : hn * wn ≤ 16 * 16 := Nat.mul_le_mul h2 h1
 have e1 : (wn : Int) * (hn : Int) = ((hn * wn : Nat) : Int) := by rw [Nat.mul_comm]; push_cast; rfl
 have e2 : ((hn * wn : Nat) : Int) * (pn : Int) = (((hn * wn) * pn : Nat) : Int) := by push_cast; rfl
 unfold spec_newImage.f
 rw [e1, w64 (x := ((hn * wn : Nat) : Int)) (by omega) (by omega), e2, w64 (by omega) (by omega), if_pos (by omega), Int.toNat_natCast, if_pos (by omega)]
def cropD (an pn : Nat) (d : List Int) (X Y wn hn : Nat) : List Int := imgD (fun x y => nx pn d ((Y + y) * an + (X + x))) wn hn
theorem cropD_len {an bn pn X Y wn hn : Nat} {d : List Int} (hd : d.length = (bn * an) * pn) (hX : X + wn ≤ an) (hY : Y + hn ≤ bn) : ∀ x y, x < wn → y < hn → (nx pn d ((Y + y) * an + (X + x))).length = pn := fun x y hx hy => nx_length hd (lin_lt (by omega) (by omega))
theorem crop_ev {an bn pn X Y wn hn : Nat} (h1 : an ≤ 16) (h2 : bn ≤ 16) (h3 : pn ≤ 4) (hX : X + wn ≤ an) (hY : Y + hn ≤ bn) (d : List Int) (hd : d.length = (bn * an) * pn) :
  Ev (fun k => spec_crop.f k an bn pn d X Y wn hn) ((wn : Int), (hn : Int), (pn : Int), cropD an pn d X Y wn hn) := by
 unfold spec_crop.f
 refine ev_now (newImg_eq (by omega) (by omega) h3) ?_
 have hlen := cropD_len hd hX hY
 have hfl : (cropD an pn d X Y wn hn).length = (hn * wn) * pn := imgD_length hlen
 have inner : ∀ (r : Nat), r < hn → ∀ s : List Int, (s.length = (hn * wn) * pn ∧ ∀ x y, x < wn → y < r → nx pn s (y * wn + x) = nx pn d ((Y + y) * an + (X + x))) →
   ∃ s' : List Int, (s'.length = (hn * wn) * pn ∧ ∀ x y, x < wn → y < r + 1 → nx pn s' (y * wn + x) = nx pn d ((Y + y) * an + (X + x))) ∧
    ∀ res, Ev (fun k => spec_crop.l0 k X Y wn hn ((r + 1 : Nat) : Int) an bn pn d wn hn pn s') res → Ev (fun k => spec_crop.l1 k X Y wn hn (r : Int) 0 an bn pn d wn hn pn s) res := by
  intro r hr s hs
  obtain ⟨s', h4, h5⟩ := ev_run wn (fun k c s => spec_crop.l1 k X Y wn hn (r : Int) (c : Int) an bn pn d wn hn pn s) (fun s k => spec_crop.l0 k X Y wn hn ((r + 1 : Nat) : Int) an bn pn d wn hn pn s)
   (fun c s => s.length = (hn * wn) * pn ∧ (∀ x y, x < wn → y < r → nx pn s (y * wn + x) = nx pn d ((Y + y) * an + (X + x))) ∧ ∀ x, x < c → nx pn s (r * wn + x) = nx pn d ((Y + r) * an + (X + x)))
   (by
    intro c s hc ⟨hsl, i1, i2⟩
    have hyl : (nx pn d ((Y + r) * an + (X + c))).length = pn := hlen c r hc hr
    have hlin := lin_lt hc hr
    have hm : (r * wn + c + 1) * pn ≤ (hn * wn) * pn := Nat.mul_le_mul_right pn hlin
    rw [Nat.add_mul, Nat.one_mul] at hm
    refine ⟨laidOver s ((r * wn + c) * pn) (nx pn d ((Y + r) * an + (X + c))), ⟨by rw [laidOver_length _ _ _ (by rw [hyl, hsl]; exact hm)]; exact hsl, ?_, ?_⟩, ?_⟩
    ·intro x y hx hy
     rw [nx_laid hsl hyl hlin (lin_lt hx (by omega)), if_neg (fun e => by have := (lin_ne hx hc e).2; omega)]
     exact i1 x y hx hy
    ·intro x hx
     rw [nx_laid hsl hyl hlin (lin_lt (by omega) hr)]
     by_cases e : x = c
     ·subst e; rw [if_pos rfl]
     ·rw [if_neg (by omega)]; exact i2 x (by omega)
    ·intro res hres
     refine Ev.step (f := fun k => (spec_pixelAt.f an bn pn d ((X + c : Nat) : Int) ((Y + r : Nat) : Int)).bind fun t => (spec_setPixel.f k wn hn pn s (c : Int) (r : Int) t).bind fun u => spec_crop.l1 k X Y wn hn (r : Int) ((c + 1 : Nat) : Int) an bn pn d wn hn pn u) (fun k => ?_) (ev_now (pixelAt_eq h1 h2 h3 (by omega) (by omega) d hd) (ev_bind (setPixel_ev (by omega) (by omega) h3 hc hr s _ hsl hyl) hres))
     simp only [spec_crop.l1]
     rw [if_pos (by omega), w64 (x := (X : Int) + (c : Int)) (by omega) (by omega), w64 (x := (Y : Int) + (r : Int)) (by omega) (by omega), w64n c (by omega)]
     push_cast
     rfl)
   (by
    intro s _ res hres
    refine Ev.step (fun k => ?_) hres
    simp only [spec_crop.l1]
    rw [if_neg (by omega), w64n r (by omega)])
   wn 0 s (by omega) ⟨hs.1, hs.2, fun x hx => by omega⟩
  refine ⟨s', ⟨h4.1, fun x y hx hy => ?_⟩, h5⟩
  by_cases e : y = r
  ·subst e; exact h4.2.2 x hx
  ·exact h4.2.1 x y hx (by omega)
 obtain ⟨s', h4, h5⟩ := ev_run hn (fun k r s => spec_crop.l0 k X Y wn hn (r : Int) an bn pn d wn hn pn s) (fun s _ => some ((wn : Int), (hn : Int), (pn : Int), s))
  (fun r s => s.length = (hn * wn) * pn ∧ ∀ x y, x < wn → y < r → nx pn s (y * wn + x) = nx pn d ((Y + y) * an + (X + x)))
  (by
   intro r s hr hs
   obtain ⟨s', i1, i2⟩ := inner r hr s hs
   refine ⟨s', i1, fun res hres => Ev.step (fun k => ?_) (i2 res hres)⟩
   simp only [spec_crop.l0]
   rw [if_pos (by omega)])
  (by
   intro s _ res hres
   refine Ev.step (fun k => ?_) hres
   simp only [spec_crop.l0]
   rw [if_neg (by omega)])
  hn 0 (List.replicate ((hn * wn) * pn) 0) (by omega) ⟨by simp, fun x y hx hy => by omega⟩
 have e : s' = cropD an pn d X Y wn hn := ext_img h4.1 hfl (fun x y hx hy => by rw [h4.2 x y hx hy]; unfold cropD; rw [nx_imgD hlen hx hy])
 subst e
 exact h5 _ (Ev.now _)
def pastePx (an pn : Nat) (d : List Int) (X Y : Int) (wn hn : Nat) (e : List Int) (x y : Nat) : List Int :=
 if X ≤ (x : Int) ∧ (x : Int) < X + wn ∧ Y ≤ (y : Int) ∧ (y : Int) < Y + hn then nx pn e (((y : Int) - Y).toNat * wn + ((x : Int) - X).toNat) else nx pn d (y * an + x)
theorem pastePx_len {an bn pn wn hn : Nat} {d e : List Int} {X Y : Int} (hd : d.length = (bn * an) * pn) (he : e.length = (hn * wn) * pn) : ∀ x y, x < an → y < bn → (pastePx an pn d X Y wn hn e x y).length = pn := by
 intro x y hx hy
 unfold pastePx
 split
 ·exact nx_length he (lin_lt (by omega) (by omega))
 ·exact nx_length hd (lin_lt hx hy)
theorem onImage_eq {an bn : Nat} (h1 : 1 ≤ an ∧ an ≤ 16) (h2 : 1 ≤ bn ∧ bn ≤ 16) (p : Int) (d : List Int) (x y : Int) : spec_onImage.f an bn p d x y = some (decide (0 ≤ x ∧ x < an ∧ 0 ≤ y ∧ y < bn)) := by
 unfold spec_onImage.f
 rw [w64 (x := (an : Int) - 1) (by omega) (by omega), w64 (x := (bn : Int) - 1) (by omega) (by omega), spec_inRangeI_eq, spec_inRangeI_eq]
 simp only [Option.bind_some]
 by_cases c : 0 ≤ x ∧ x ≤ (an : Int) - 1
 ·rw [if_pos (by simpa using c)]; congr 1; rw [Bool.eq_iff_iff]; simp; omega
 ·rw [if_neg (by simpa using c), decide_eq_false (by omega)]
theorem paste_ev {an bn pn wn hn : Nat} {X Y : Int} (h1 : 1 ≤ an ∧ an ≤ 16) (h2 : 1 ≤ bn ∧ bn ≤ 16) (h3 : pn ≤ 4) (h4 : wn ≤ 16) (h5 : hn ≤ 16) (hX : -16 ≤ X ∧ X ≤ 16) (hY : -16 ≤ Y ∧ Y ≤ 16) (d e : List Int) (hd : d.length = (bn * an) * pn) (he : e.length = (hn * wn) * pn) :
  Ev (fun k => spec_paste.f k an bn pn d X Y wn hn pn e) (imgD (pastePx an pn d X Y wn hn e) an bn) := by
 unfold spec_paste.f
 have hlen := pastePx_len (X := X) (Y := Y) hd he
 let I : Nat → Nat → List Int → Prop := fun r c s => s.length = (bn * an) * pn ∧ ∀ x y : Nat, x < an → y < bn → nx pn s (y * an + x) = if X ≤ (x : Int) ∧ (x : Int) < X + wn ∧ Y ≤ (y : Int) ∧ (y : Int) < Y + hn ∧ ((y : Int) < Y + r ∨ ((y : Int) = Y + r ∧ (x : Int) < X + c)) then nx pn e (((y : Int) - Y).toNat * wn + ((x : Int) - X).toNat) else nx pn d (y * an + x)
 have inner : ∀ (r : Nat), r < hn → ∀ s : List Int, I r 0 s → ∃ s' : List Int, I (r + 1) 0 s' ∧
    ∀ res, Ev (fun k => spec_paste.l0 k X Y ((r + 1 : Nat) : Int) an bn pn s' wn hn pn e) res → Ev (fun k => spec_paste.l1 k X Y (r : Int) 0 an bn pn s wn hn pn e) res := by
  intro r hr s hs
  obtain ⟨s', i4, i5⟩ := ev_run wn (fun k c s => spec_paste.l1 k X Y (r : Int) (c : Int) an bn pn s wn hn pn e) (fun s k => spec_paste.l0 k X Y ((r + 1 : Nat) : Int) an bn pn s wn hn pn e) (fun c s => I r c s)
   (by
    intro c s hc ⟨hsl, i1⟩
    have w1 := w64 (x := X + (c : Int)) (by omega) (by omega)
    have w2 := w64 (x := Y + (r : Int)) (by omega) (by omega)
    by_cases on : 0 ≤ X + (c : Int) ∧ X + (c : Int) < an ∧ 0 ≤ Y + (r : Int) ∧ Y + (r : Int) < bn
    ·obtain ⟨x0, hx0⟩ := Int.eq_ofNat_of_zero_le on.1
     obtain ⟨y0, hy0⟩ := Int.eq_ofNat_of_zero_le on.2.2.1
     have hx0a : x0 < an := by omega
     have hy0b : y0 < bn := by omega
     have hyl : (nx pn e (r * wn + c)).length = pn := nx_length he (lin_lt hc hr)
     have hlin := lin_lt hx0a hy0b
     have hm : (y0 * an + x0 + 1) * pn ≤ (bn * an) * pn := Nat.mul_le_mul_right pn hlin
     rw [Nat.add_mul, Nat.one_mul] at hm
     refine ⟨laidOver s ((y0 * an + x0) * pn) (nx pn e (r * wn + c)), ⟨by rw [laidOver_length _ _ _ (by rw [hyl, hsl]; exact hm)]; exact hsl, ?_⟩, ?_⟩
     ·intro x y hx hy
      rw [nx_laid hsl hyl hlin (lin_lt hx hy)]
      by_cases q : x = x0 ∧ y = y0
      ·obtain ⟨rfl, rfl⟩ := q
       rw [if_pos rfl, if_pos (by omega), show ((y : Int) - Y).toNat = r by omega, show ((x : Int) - X).toNat = c by omega]
      ·rw [if_neg (fun z => q (lin_ne hx hx0a z)), i1 x y hx hy]
       by_cases z : X ≤ (x : Int) ∧ (x : Int) < X + wn ∧ Y ≤ (y : Int) ∧ (y : Int) < Y + hn ∧ ((y : Int) < Y + r ∨ ((y : Int) = Y + r ∧ (x : Int) < X + c))
       ·rw [if_pos z, if_pos (by omega)]
       ·rw [if_neg z, if_neg (by omega)]
     ·intro res hres
      refine Ev.step (f := fun k => (spec_onImage.f an bn pn s (X + (c : Int)) (Y + (r : Int))).bind fun u => if u = true then ((spec_pixelAt.f wn hn pn e (c : Int) (r : Int)).bind fun t => (spec_setPixel.f k an bn pn s (X + (c : Int)) (Y + (r : Int)) t).bind fun v => spec_paste.l1 k X Y (r : Int) ((c + 1 : Nat) : Int) an bn pn v wn hn pn e) else spec_paste.l1 k X Y (r : Int) ((c + 1 : Nat) : Int) an bn pn s wn hn pn e) (fun k => ?_) (ev_now (onImage_eq h1 h2 _ _ _ _) (ev_pos (decide_eq_true on) (ev_now (pixelAt_eq h4 h5 h3 hc hr e he) (ev_bind ?_ hres))))
      ·simp only [spec_paste.l1]
       rw [if_pos (by omega), w1, w2, w64n c (by omega)]
      ·rw [hx0, hy0]
       exact setPixel_ev h1.2 h2.2 h3 hx0a hy0b s _ hsl hyl
    ·refine ⟨s, ⟨hsl, fun x y hx hy => ?_⟩, ?_⟩
     ·rw [i1 x y hx hy]
      by_cases z : X ≤ (x : Int) ∧ (x : Int) < X + wn ∧ Y ≤ (y : Int) ∧ (y : Int) < Y + hn ∧ ((y : Int) < Y + r ∨ ((y : Int) = Y + r ∧ (x : Int) < X + c))
      ·rw [if_pos z, if_pos (by omega)]
      ·rw [if_neg z, if_neg (by omega)]
     ·intro res hres
      refine Ev.step (f := fun k => (spec_onImage.f an bn pn s (X + (c : Int)) (Y + (r : Int))).bind fun u => if u = true then ((spec_pixelAt.f wn hn pn e (c : Int) (r : Int)).bind fun t => (spec_setPixel.f k an bn pn s (X + (c : Int)) (Y + (r : Int)) t).bind fun v => spec_paste.l1 k X Y (r : Int) ((c + 1 : Nat) : Int) an bn pn v wn hn pn e) else spec_paste.l1 k X Y (r : Int) ((c + 1 : Nat) : Int) an bn pn s wn hn pn e) (fun k => ?_) (ev_now (onImage_eq h1 h2 _ _ _ _) (ev_neg (by simpa using on) hres))
      simp only [spec_paste.l1]
      rw [if_pos (by omega), w1, w2, w64n c (by omega)])
   (by
    intro s _ res hres
    refine Ev.step (fun k => ?_) hres
    simp only [spec_paste.l1]
    rw [if_neg (by omega), w64n r (by omega)])
   wn 0 s (by omega) hs
  refine ⟨s', ⟨i4.1, fun x y hx hy => ?_⟩, i5⟩
  rw [i4.2 x y hx hy]
  by_cases z : X ≤ (x : Int) ∧ (x : Int) < X + wn ∧ Y ≤ (y : Int) ∧ (y : Int) < Y + hn ∧ ((y : Int) < Y + r ∨ ((y : Int) = Y + r ∧ (x : Int) < X + wn))
  ·rw [if_pos z, if_pos (by omega)]
  ·rw [if_neg z, if_neg (by omega)]
 obtain ⟨s', i4, i5⟩ := ev_run hn (fun k r s => spec_paste.l0 k X Y (r : Int) an bn pn s wn hn pn e) (fun s _ => some s) (fun r s => I r 0 s)
  (by
   intro r s hr hs
   obtain ⟨s', i1, i2⟩ := inner r hr s hs
   refine ⟨s', i1, fun res hres => Ev.step (fun k => ?_) (i2 res hres)⟩
   simp only [spec_paste.l0]
   rw [if_pos (by omega)])
  (by
   intro s _ res hres
   refine Ev.step (fun k => ?_) hres
   simp only [spec_paste.l0]
   rw [if_neg (by omega)])
  hn 0 d (by omega) ⟨hd, fun x y hx hy => by rw [if_neg (by omega)]⟩
 have q : s' = imgD (pastePx an pn d X Y wn hn e) an bn := ext_img i4.1 (imgD_length hlen) (fun x y hx hy => by
  rw [i4.2 x y hx hy, nx_imgD hlen hx hy]
  unfold pastePx
  by_cases z : X ≤ (x : Int) ∧ (x : Int) < X + wn ∧ Y ≤ (y : Int) ∧ (y : Int) < Y + hn
  ·rw [if_pos z, if_pos (by omega)]
  ·rw [if_neg z, if_neg (by omega)])
 subst q
 exact i5 _ (Ev.now _)

/- PatchImage, as the program and the reference have it. -/

def inBx (r : S47) (x y : Nat) : Bool := decide (r.f0 ≤ (x : Int) ∧ (x : Int) < r.f0 + r.f2 ∧ r.f1 ≤ (y : Int) ∧ (y : Int) < r.f1 + r.f3)
def patchPx (an pn : Nat) (d e : List Int) (l : List S47) (x y : Nat) : List Int := if l.any (fun r => inBx r x y) = true then nx pn e (y * an + x) else nx pn d (y * an + x)
theorem patchPx_len {an bn pn : Nat} {d e : List Int} (hd : d.length = (bn * an) * pn) (he : e.length = (bn * an) * pn) (l : List S47) : ∀ x y, x < an → y < bn → (patchPx an pn d e l x y).length = pn := by
 intro x y hx hy
 unfold patchPx
 split
 ·exact nx_length he (lin_lt hx hy)
 ·exact nx_length hd (lin_lt hx hy)
theorem onB_box {a b : Int} {r : S47} (h : onB a b r = true) : ∃ X Y W H : Nat, r = ⟨X, Y, W, H⟩ ∧ 1 ≤ W ∧ 1 ≤ H ∧ (X : Int) + W ≤ a ∧ (Y : Int) + H ≤ b := by
 have h' := (onB_iff a b r).1 h
 obtain ⟨X, hX⟩ := Int.eq_ofNat_of_zero_le h'.1
 obtain ⟨Y, hY⟩ := Int.eq_ofNat_of_zero_le h'.2.2.1
 obtain ⟨W, hW⟩ := Int.eq_ofNat_of_zero_le (show 0 ≤ r.f2 by omega)
 obtain ⟨H, hH⟩ := Int.eq_ofNat_of_zero_le (show 0 ≤ r.f3 by omega)
 exact ⟨X, Y, W, H, by cases r; simp_all, by omega, by omega, by omega, by omega⟩
theorem put1_is {an bn pn : Nat} (h1 : an ≤ 16) (h2 : bn ≤ 16) (h3 : pn ≤ 4) {e : List Int} {x y : Nat} (hx : x < an) (hy : y < bn) (d : List Int) : put1 an pn e x y d = laidOver d ((y * an + x) * pn) (nx pn e (y * an + x)) := by
 unfold put1
 rw [(pixJ_nat h1 h2 h3 hx hy).1, Int.toNat_natCast, ← (pixJ_nat h1 h2 h3 hx hy).1]
 rw [show pixT e (pixJ an pn x y) pn = pxAt an pn e x y from rfl, pxAt_nat h1 h2 h3 hx hy]
theorem put1_len {an bn pn : Nat} (h1 : an ≤ 16) (h2 : bn ≤ 16) (h3 : pn ≤ 4) {e : List Int} (he : e.length = (bn * an) * pn) {x y : Nat} (hx : x < an) (hy : y < bn) {d : List Int} (hd : d.length = (bn * an) * pn) : (put1 an pn e x y d).length = (bn * an) * pn := by
 have hlin := lin_lt hx hy
 have hm : (y * an + x + 1) * pn ≤ (bn * an) * pn := Nat.mul_le_mul_right pn hlin
 rw [Nat.add_mul, Nat.one_mul] at hm
 rw [put1_is h1 h2 h3 hx hy, laidOver_length _ _ _ (by rw [nx_length he hlin, hd]; exact hm)]
 exact hd
theorem put1_nx {an bn pn : Nat} (h1 : an ≤ 16) (h2 : bn ≤ 16) (h3 : pn ≤ 4) {e : List Int} (he : e.length = (bn * an) * pn) {x y : Nat} (hx : x < an) (hy : y < bn) {d : List Int} (hd : d.length = (bn * an) * pn) {x' y' : Nat} (hx' : x' < an) (hy' : y' < bn) : nx pn (put1 an pn e x y d) (y' * an + x') = if x' = x ∧ y' = y then nx pn e (y' * an + x') else nx pn d (y' * an + x') := by
 rw [put1_is h1 h2 h3 hx hy, nx_laid hd (nx_length he (lin_lt hx hy)) (lin_lt hx hy) (lin_lt hx' hy')]
 by_cases c : x' = x ∧ y' = y
 ·rw [if_pos c, if_pos (by rw [c.1, c.2]), c.1, c.2]
 ·rw [if_neg c, if_neg (fun z => c (lin_ne hx' hx z))]
theorem putX_nx {an bn pn : Nat} (h1 : an ≤ 16) (h2 : bn ≤ 16) (h3 : pn ≤ 4) {e : List Int} (he : e.length = (bn * an) * pn) {X y : Nat} (hy : y < bn) {d : List Int} (hd : d.length = (bn * an) * pn) : ∀ n, X + n ≤ an → (putX an pn e X y n d).length = (bn * an) * pn ∧ ∀ x' y', x' < an → y' < bn → nx pn (putX an pn e X y n d) (y' * an + x') = if y' = y ∧ X ≤ x' ∧ x' < X + n then nx pn e (y' * an + x') else nx pn d (y' * an + x') := by
 intro n
 induction n with
 | zero =>
  intro _
  refine ⟨hd, fun x' y' hx' hy' => ?_⟩
  rw [if_neg (by omega)]
  rfl
 | succ n ih =>
  intro hn
  obtain ⟨i1, i2⟩ := ih (by omega)
  rw [putX_succ]
  refine ⟨put1_len h1 h2 h3 he (by omega) hy i1, fun x' y' hx' hy' => ?_⟩
  rw [put1_nx h1 h2 h3 he (by omega) hy i1 hx' hy', i2 x' y' hx' hy']
  by_cases c : x' = X + n ∧ y' = y
  ·rw [if_pos c, if_pos (by omega)]
  ·rw [if_neg c]
   by_cases c2 : y' = y ∧ X ≤ x' ∧ x' < X + n
   ·rw [if_pos c2, if_pos (by omega)]
   ·rw [if_neg c2, if_neg (by omega)]
theorem putB_nx {an bn pn : Nat} (h1 : an ≤ 16) (h2 : bn ≤ 16) (h3 : pn ≤ 4) {e : List Int} (he : e.length = (bn * an) * pn) {X Y W : Nat} (hW : X + W ≤ an) {d : List Int} (hd : d.length = (bn * an) * pn) : ∀ n, Y + n ≤ bn → (putB an pn e X Y W n d).length = (bn * an) * pn ∧ ∀ x' y', x' < an → y' < bn → nx pn (putB an pn e X Y W n d) (y' * an + x') = if X ≤ x' ∧ x' < X + W ∧ Y ≤ y' ∧ y' < Y + n then nx pn e (y' * an + x') else nx pn d (y' * an + x') := by
 intro n
 induction n with
 | zero =>
  intro _
  refine ⟨hd, fun x' y' hx' hy' => ?_⟩
  rw [if_neg (by omega)]
  rfl
 | succ n ih =>
  intro hn
  obtain ⟨i1, i2⟩ := ih (by omega)
  obtain ⟨i3, i4⟩ := putX_nx h1 h2 h3 he (X := X) (y := Y + n) (by omega) i1 W hW
  rw [putB_succ]
  refine ⟨i3, fun x' y' hx' hy' => ?_⟩
  rw [i4 x' y' hx' hy', i2 x' y' hx' hy']
  by_cases c : y' = Y + n ∧ X ≤ x' ∧ x' < X + W
  ·rw [if_pos c, if_pos (by omega)]
  ·rw [if_neg c]
   by_cases c2 : X ≤ x' ∧ x' < X + W ∧ Y ≤ y' ∧ y' < Y + n
   ·rw [if_pos c2, if_pos (by omega)]
   ·rw [if_neg c2, if_neg (by omega)]
theorem patchD_nx {an bn pn : Nat} (h1 : an ≤ 16) (h2 : bn ≤ 16) (h3 : pn ≤ 4) {e : List Int} (he : e.length = (bn * an) * pn) : ∀ (l : List S47), (∀ r ∈ l, onB an bn r = true) → ∀ d : List Int, d.length = (bn * an) * pn → (patchD an pn e l d).length = (bn * an) * pn ∧ ∀ x' y', x' < an → y' < bn → nx pn (patchD an pn e l d) (y' * an + x') = patchPx an pn d e l x' y' := by
 intro l
 induction l with
 | nil =>
  intro _ d hd
  exact ⟨hd, fun x' y' _ _ => rfl⟩
 | cons r l ih =>
  intro hl d hd
  obtain ⟨X, Y, W, H, rfl, hW, hH, hXW, hYH⟩ := onB_box (hl r (by simp))
  obtain ⟨i1, i2⟩ := putB_nx h1 h2 h3 he (X := X) (Y := Y) (W := W) (by omega) hd H (by omega)
  obtain ⟨i3, i4⟩ := ih (fun q hq => hl q (by simp [hq])) _ i1
  have e0 : patchD an pn e ((⟨X, Y, W, H⟩ : S47) :: l) d = patchD an pn e l (putB an pn e X Y W H d) := rfl
  rw [e0]
  refine ⟨i3, fun x' y' hx' hy' => ?_⟩
  rw [i4 x' y' hx' hy']
  unfold patchPx
  rw [List.any_cons, i2 x' y' hx' hy']
  by_cases c : l.any (fun r => inBx r x' y') = true
  ·rw [if_pos c, if_pos (by rw [c]; simp)]
  ·rw [if_neg c]
   have cf : l.any (fun r => inBx r x' y') = false := Bool.eq_false_iff.2 c
   rw [cf, Bool.or_false]
   by_cases c2 : X ≤ x' ∧ x' < X + W ∧ Y ≤ y' ∧ y' < Y + H
   ·rw [if_pos c2, if_pos (by unfold inBx; exact decide_eq_true (by show (X : Int) ≤ x' ∧ (x' : Int) < (X : Int) + (W : Int) ∧ (Y : Int) ≤ y' ∧ (y' : Int) < (Y : Int) + (H : Int); omega))]
   ·rw [if_neg c2, if_neg (by unfold inBx; rw [decide_eq_false (by show ¬ ((X : Int) ≤ x' ∧ (x' : Int) < (X : Int) + (W : Int) ∧ (Y : Int) ≤ y' ∧ (y' : Int) < (Y : Int) + (H : Int)); omega)]; simp)]

/- CoverImage, as the program and the reference have it. -/

theorem cover_byte (mode a b alpha : Int) (ha : 0 ≤ a) (ha' : a ≤ 255) (hb : 0 ≤ b) (hb' : b ≤ 255) (h : 0 ≤ alpha) (h' : alpha ≤ 255) : 0 ≤ coverN mode a b alpha ∧ coverN mode a b alpha ≤ 255 := by
 have h1 := cover_between mode a b alpha ha ha' hb hb' h h'
 have h2 := mixN_range mode a b ha ha' hb hb'
 omega
def AllB (d : List Int) : Prop := ∀ n ∈ d, 0 ≤ n ∧ n ≤ 255
theorem allB_at {d : List Int} (h : AllB d) (i : Nat) (hi : i < d.length) : 0 ≤ d[i] ∧ d[i] ≤ 255 := h _ (List.getElem_mem hi)
theorem allB_nx {d : List Int} (h : AllB d) (n i : Nat) : AllB (nx n d i) := fun x hx => h x (List.mem_of_mem_drop (List.mem_of_mem_take hx))
theorem blV_cover {mode alpha n u : Int} (h1 : 0 ≤ alpha ∧ alpha ≤ 255) (h2 : 0 ≤ n ∧ n ≤ 255) (h3 : 0 ≤ u ∧ u ≤ 255) : blV mode alpha n u = coverN mode n u alpha := by
 unfold blV
 rw [blended_eq mode n u alpha h2.1 h2.2 h3.1 h3.2 h1.1 h1.2]
 rfl
def covL (mode alpha : Int) (l u : List Int) : List Int := List.zipWith (fun n m => coverN mode n m alpha) l u
theorem zip_cover {mode alpha : Int} (h1 : 0 ≤ alpha ∧ alpha ≤ 255) : ∀ {l u : List Int}, AllB l → AllB u → List.zipWith (blV mode alpha) l u = covL mode alpha l u := by
 intro l
 induction l with
 | nil => intro u _ _; rfl
 | cons x l ih =>
  intro u hl hu
  cases u with
  | nil => rfl
  | cons y u =>
   unfold covL at ih ⊢
   rw [List.zipWith_cons_cons, List.zipWith_cons_cons, blV_cover h1 (hl x (by simp)) (hu y (by simp)), ih (fun z hz => hl z (by simp [hz])) (fun z hz => hu z (by simp [hz]))]
theorem covL_len {mode alpha : Int} {l u : List Int} {n : Nat} (h1 : l.length = n) (h2 : u.length = n) : (covL mode alpha l u).length = n := by unfold covL; rw [List.length_zipWith]; omega
theorem covL_bytes {mode alpha : Int} (h1 : 0 ≤ alpha ∧ alpha ≤ 255) {l u : List Int} (hl : AllB l) (hu : AllB u) : AllB (covL mode alpha l u) := by
 intro z hz
 unfold covL at hz
 obtain ⟨i, hi, rfl⟩ := List.getElem_of_mem hz
 rw [List.length_zipWith] at hi
 rw [List.getElem_zipWith]
 have a := allB_at hl i (by omega)
 have b := allB_at hu i (by omega)
 exact cover_byte _ _ _ _ a.1 a.2 b.1 b.2 h1.1 h1.2
def covPx (an pn : Nat) (d : List Int) (X Y : Int) (wn hn : Nat) (e : List Int) (mode alpha : Int) (x y : Nat) : List Int :=
 if X ≤ (x : Int) ∧ (x : Int) < X + wn ∧ Y ≤ (y : Int) ∧ (y : Int) < Y + hn then covL mode alpha (nx pn d (y * an + x)) (nx pn e (((y : Int) - Y).toNat * wn + ((x : Int) - X).toNat)) else nx pn d (y * an + x)
theorem covPx_len {an bn pn wn hn : Nat} {d e : List Int} {X Y : Int} (mode alpha : Int) (hd : d.length = (bn * an) * pn) (he : e.length = (hn * wn) * pn) : ∀ x y, x < an → y < bn → (covPx an pn d X Y wn hn e mode alpha x y).length = pn := by
 intro x y hx hy
 unfold covPx
 split
 ·exact covL_len (nx_length hd (lin_lt hx hy)) (nx_length he (lin_lt (by omega) (by omega)))
 ·exact nx_length hd (lin_lt hx hy)
theorem coverPx_cov {an bn pn wn hn : Nat} (h1 : an ≤ 16) (h2 : bn ≤ 16) (h3 : pn ≤ 4) (h4 : wn ≤ 16) (h5 : hn ≤ 16) {d e : List Int} {X Y mode alpha : Int} (ha : 0 ≤ alpha ∧ alpha ≤ 255) (hd : AllB d) (he : AllB e) {x y : Nat} (hx : x < an) (hy : y < bn) :
  coverPx an pn d wn hn e X Y mode alpha x y = covPx an pn d X Y wn hn e mode alpha x y := by
 unfold coverPx covPx inBoxZ
 by_cases c : X ≤ (x : Int) ∧ (x : Int) < X + wn ∧ Y ≤ (y : Int) ∧ (y : Int) < Y + hn
 ·rw [if_pos c, if_pos (decide_eq_true c), pxAt_nat h1 h2 h3 hx hy, pxAt_nat h4 h5 h3 (by omega) (by omega)]
  exact zip_cover ha (allB_nx hd _ _) (allB_nx he _ _)
 ·rw [if_neg c, if_neg (by simpa using c), pxAt_nat h1 h2 h3 hx hy]
theorem laid_get (s zs : List Int) (j q : Nat) (hq : q < zs.length) (hj : j + zs.length ≤ s.length) : (laidOver s j (zs.take q)).getD (j + q) 0 = s.getD (j + q) 0 := by
 have h1 : (zs.take q).length = q := by rw [List.length_take]; omega
 have h2 : (s.take j).length = j := by rw [List.length_take]; omega
 unfold laidOver
 rw [List.getD_eq_getElem?_getD, List.getElem?_append_right (by omega), h2, Nat.add_sub_cancel_left, List.getElem?_append_right (by omega), h1, Nat.sub_self, List.getElem?_drop, Nat.add_zero, List.getD_eq_getElem?_getD]
theorem nx_getD (s : List Int) (n i q : Nat) (hq : q < n) : (nx n s i).getD q 0 = s.getD (i * n + q) 0 := by
 unfold nx
 rw [List.getD_eq_getElem?_getD, List.getElem?_take, if_pos hq, List.getElem?_drop, List.getD_eq_getElem?_getD]
theorem rd_getD (l : List Int) (i : Nat) : rd l (i : Int) = l.getD i 0 := by simp [rd]
theorem blendPx_ev {an bn pn wn hn : Nat} {X Y mode alpha : Int} (hid : Bool) (hal : 0 ≤ alpha ∧ alpha ≤ 255) (r c : Nat) (hr : r ≤ 16) (hc : c ≤ 16) (s e : List Int) (jd je : Nat) (hs1 : s.length ≤ 1024) (he1 : e.length ≤ 1024) (hm : jd * pn + pn ≤ s.length) (hme : je * pn + pn ≤ e.length) (hp : pn ≤ 4) (hdb : AllB (nx pn s jd)) (heb : AllB (nx pn e je))
  (hJ : wrap64 ((wrap64 ((wrap64 ((wrap64 ((wrap64 (Y + (r : Int))) * (an : Int))) + X)) + (c : Int))) * (pn : Int)) = ((jd * pn : Nat) : Int)) (hJe : wrap64 ((wrap64 ((wrap64 ((r : Int) * (wn : Int))) + (c : Int))) * (pn : Int)) = ((je * pn : Nat) : Int)) (res : List Int)
  (hres : Ev (fun k => spec_blendPaste.l1 k (r : Int) ((c + 1 : Nat) : Int) an bn pn (laidOver s (jd * pn) (covL mode alpha (nx pn s jd) (nx pn e je))) wn hn pn e X Y mode alpha hid) res) :
  Ev (fun k => spec_blendPaste.l2 k (r : Int) (c : Int) 0 an bn pn s wn hn pn e X Y mode alpha hid) res := by
 have HJ := Aside0.mk hJ
 have HJe := Aside0.mk hJe
 clear hJ hJe
 have hl1 : (nx pn s jd).length = pn := by unfold nx; rw [List.length_take, List.length_drop]; omega
 have hl2 : (nx pn e je).length = pn := by unfold nx; rw [List.length_take, List.length_drop]; omega
 obtain ⟨zs, hzs⟩ : ∃ zs, zs = covL mode alpha (nx pn s jd) (nx pn e je) := ⟨_, rfl⟩
 have hyl : zs.length = pn := by rw [hzs]; exact covL_len hl1 hl2
 rw [← hzs] at hres
 have hz : ∀ q (hq : q < pn), zs[q]'(by rw [hyl]; exact hq) = coverN mode ((nx pn s jd).getD q 0) ((nx pn e je).getD q 0) alpha := by
  intro q hq
  have hzq : zs[q]? = some (coverN mode ((nx pn s jd).getD q 0) ((nx pn e je).getD q 0) alpha) := by
   rw [hzs]
   unfold covL
   rw [List.getElem?_zipWith, List.getElem?_eq_getElem (show q < (nx pn s jd).length by omega), List.getElem?_eq_getElem (show q < (nx pn e je).length by omega), List.getD_eq_getElem?_getD, List.getElem?_eq_getElem (show q < (nx pn s jd).length by omega), List.getD_eq_getElem?_getD, List.getElem?_eq_getElem (show q < (nx pn e je).length by omega)]
   rfl
  rw [List.getElem?_eq_getElem (show q < zs.length by omega)] at hzq
  exact Option.some.inj hzq
 have hb : ∀ q, q < pn → (0 ≤ (nx pn s jd).getD q 0 ∧ (nx pn s jd).getD q 0 ≤ 255) ∧ (0 ≤ (nx pn e je).getD q 0 ∧ (nx pn e je).getD q 0 ≤ 255) := by
  intro q hq
  refine ⟨?_, ?_⟩
  ·rw [List.getD_eq_getElem?_getD, List.getElem?_eq_getElem (show q < (nx pn s jd).length by omega)]; exact allB_at hdb q (by omega)
  ·rw [List.getD_eq_getElem?_getD, List.getElem?_eq_getElem (show q < (nx pn e je).length by omega)]; exact allB_at heb q (by omega)
 have hg : ∀ q, q < pn → rd (laidOver s (jd * pn) (zs.take q)) ((jd * pn + q : Nat) : Int) = (nx pn s jd).getD q 0 := fun q hq => by rw [rd_getD, laid_get s zs _ q (by omega) (by omega), ← nx_getD s pn jd q hq]
 have hg2 : ∀ q, q < pn → rd e ((je * pn + q : Nat) : Int) = (nx pn e je).getD q 0 := fun q hq => by rw [rd_getD, ← nx_getD e pn je q hq]
 have hls : ∀ q, q < pn → (laidOver s (jd * pn) (zs.take q)).length = s.length := fun q hq => laidOver_length s _ _ (by rw [List.length_take]; omega)
 have hset : ∀ q (hq : q < pn), (laidOver s (jd * pn) (zs.take q)).set (jd * pn + q) (zs[q]'(by rw [hyl]; exact hq)) = laidOver s (jd * pn) (zs.take (q + 1)) := fun q hq => laid_set s zs (jd * pn) q (by omega) (by omega)
 clear hzs hdb heb
 generalize nx pn s jd = S at *
 generalize nx pn e je = E at *
 generalize hjp : jd * pn = j at *
 generalize hjq : je * pn = i at *
 clear hjp hjq
 obtain ⟨s2, hs2, hk⟩ := ev_run pn (fun k q s' => spec_blendPaste.l2 k (r : Int) (c : Int) (q : Int) an bn pn s' wn hn pn e X Y mode alpha hid) (fun s' k => spec_blendPaste.l1 k (r : Int) ((c + 1 : Nat) : Int) an bn pn s' wn hn pn e X Y mode alpha hid) (fun q s' => s' = laidOver s j (zs.take q))
  (by
   intro q s' hq hs'
   subst hs'
   refine ⟨_, hset q hq, fun res hres => Ev.step (fun k => ?_) hres⟩
   have b := hb q hq
   have hh := hls q hq
   have a1 := Aside0.mk (show wrap64 ((j : Int) + (q : Int)) = ((j + q : Nat) : Int) from by rw [w64 (by omega) (by omega)]; push_cast; rfl)
   have a2 := Aside0.mk (show wrap64 ((i : Int) + (q : Int)) = ((i + q : Nat) : Int) from by rw [w64 (by omega) (by omega)]; push_cast; rfl)
   have hp1 : (q : Int) < (pn : Int) := by omega
   have hp2 : (0 : Int) ≤ ((j + q : Nat) : Int) := by omega
   have hp3 : ((j + q : Nat) : Int) < ((laidOver s j (zs.take q)).length : Int) := by rw [hh]; omega
   have hp4 : (0 : Int) ≤ ((i + q : Nat) : Int) := by omega
   have hp5 : ((i + q : Nat) : Int) < (e.length : Int) := by omega
   simp only [spec_blendPaste.l2]
   rw [HJ.out, HJe.out, a1.out, a2.out, hg q hq, hg2 q hq, if_pos hp1, if_pos hp2, if_pos hp3, if_pos hp4, if_pos hp5, blend_eq mode _ _ alpha b.1.1 b.1.2 b.2.1 b.2.2 hal.1 hal.2]
   simp only [Option.bind_some]
   rw [← hz q hq, w64n q (by omega), Int.toNat_natCast])
  (by
   intro s' _ res hres
   refine Ev.step (fun k => ?_) hres
   simp only [spec_blendPaste.l2]
   rw [if_neg (by omega), w64n c (by omega)])
  pn 0 s (by omega) (by unfold laidOver; simp)
 rw [List.take_of_length_le (by omega)] at hs2
 subst hs2
 exact hk _ hres
theorem at_px2 {an pn x0 y0 r c : Nat} {X Y : Int} (h1 : an ≤ 16) (hy : y0 ≤ 16) (hx0 : X + (c : Int) = (x0 : Int)) (hy0 : Y + (r : Int) = (y0 : Int)) (hX : -16 ≤ X ∧ X ≤ 16) (hY : -16 ≤ Y ∧ Y ≤ 16) (hr : r ≤ 16) (hc : c ≤ 16) (hJ : pixJ an pn x0 y0 = (((y0 * an + x0) * pn : Nat) : Int)) :
  wrap64 ((wrap64 ((wrap64 ((wrap64 ((wrap64 (Y + (r : Int))) * (an : Int))) + X)) + (c : Int))) * (pn : Int)) = (((y0 * an + x0) * pn : Nat) : Int) := by
 rw [← hJ]
 unfold pixJ
 clear hJ
 have hya : y0 * an ≤ 16 * 16 := Nat.mul_le_mul hy h1
 rw [hy0, w64 (x := (y0 : Int)) (by omega) (by omega)]
 have e1 : ((y0 : Int) * (an : Int)) = ((y0 * an : Nat) : Int) := by push_cast; rfl
 rw [e1]
 clear e1
 generalize y0 * an = t at *
 rw [w64 (x := (t : Int)) (by omega) (by omega), w64 (x := (t : Int) + X) (by omega) (by omega), show (t : Int) + X + (c : Int) = (t : Int) + (x0 : Int) by omega]
theorem blendPaste_ev {an bn pn wn hn : Nat} {X Y mode alpha : Int} (hid : Bool) (h1 : 1 ≤ an ∧ an ≤ 16) (h2 : 1 ≤ bn ∧ bn ≤ 16) (h3 : pn ≤ 4) (h4 : wn ≤ 16) (h5 : hn ≤ 16) (hX : -16 ≤ X ∧ X ≤ 16) (hY : -16 ≤ Y ∧ Y ≤ 16) (hal : 0 ≤ alpha ∧ alpha ≤ 255) (d e : List Int) (hd : d.length = (bn * an) * pn) (he : e.length = (hn * wn) * pn) (hdb : AllB d) (heb : AllB e) :
  Ev (fun k => spec_blendPaste.f k an bn pn d wn hn pn e X Y mode alpha hid) (imgD (covPx an pn d X Y wn hn e mode alpha) an bn) := by
 unfold spec_blendPaste.f
 have hlen := covPx_len (X := X) (Y := Y) mode alpha hd he
 let I : Nat → Nat → List Int → Prop := fun r c s => s.length = (bn * an) * pn ∧ ∀ x y : Nat, x < an → y < bn → nx pn s (y * an + x) = if X ≤ (x : Int) ∧ (x : Int) < X + wn ∧ Y ≤ (y : Int) ∧ (y : Int) < Y + hn ∧ ((y : Int) < Y + r ∨ ((y : Int) = Y + r ∧ (x : Int) < X + c)) then covL mode alpha (nx pn d (y * an + x)) (nx pn e (((y : Int) - Y).toNat * wn + ((x : Int) - X).toNat)) else nx pn d (y * an + x)
 have inner : ∀ (r : Nat), r < hn → ∀ s : List Int, I r 0 s → ∃ s' : List Int, I (r + 1) 0 s' ∧
    ∀ res, Ev (fun k => spec_blendPaste.l0 k ((r + 1 : Nat) : Int) an bn pn s' wn hn pn e X Y mode alpha hid) res → Ev (fun k => spec_blendPaste.l1 k (r : Int) 0 an bn pn s wn hn pn e X Y mode alpha hid) res := by
  intro r hr s hs
  obtain ⟨s', i4, i5⟩ := ev_run wn (fun k c s => spec_blendPaste.l1 k (r : Int) (c : Int) an bn pn s wn hn pn e X Y mode alpha hid) (fun s k => spec_blendPaste.l0 k ((r + 1 : Nat) : Int) an bn pn s wn hn pn e X Y mode alpha hid) (fun c s => I r c s)
   (by
    intro c s hc ⟨hsl, i1⟩
    have w1 := w64 (x := X + (c : Int)) (by omega) (by omega)
    have w2 := w64 (x := Y + (r : Int)) (by omega) (by omega)
    by_cases on : 0 ≤ X + (c : Int) ∧ X + (c : Int) < an ∧ 0 ≤ Y + (r : Int) ∧ Y + (r : Int) < bn
    ·obtain ⟨x0, hx0⟩ := Int.eq_ofNat_of_zero_le on.1
     obtain ⟨y0, hy0⟩ := Int.eq_ofNat_of_zero_le on.2.2.1
     have hx0a : x0 < an := by omega
     have hy0b : y0 < bn := by omega
     have hel : (nx pn e (r * wn + c)).length = pn := nx_length he (lin_lt hc hr)
     have hdl : (nx pn d (y0 * an + x0)).length = pn := nx_length hd (lin_lt hx0a hy0b)
     have hlin := lin_lt hx0a hy0b
     obtain ⟨zs, hzs⟩ : ∃ zs, zs = covL mode alpha (nx pn d (y0 * an + x0)) (nx pn e (r * wn + c)) := ⟨_, rfl⟩
     have hyl : zs.length = pn := by rw [hzs]; exact covL_len hdl hel
     have hm : (y0 * an + x0 + 1) * pn ≤ (bn * an) * pn := Nat.mul_le_mul_right pn hlin
     rw [Nat.add_mul, Nat.one_mul] at hm
     have hme : (r * wn + c + 1) * pn ≤ (hn * wn) * pn := Nat.mul_le_mul_right pn (lin_lt hc hr)
     rw [Nat.add_mul, Nat.one_mul] at hme
     have sm := small h1.2 h2.2 h3
     have sme := small h4 h5 h3
     have hsd : nx pn s (y0 * an + x0) = nx pn d (y0 * an + x0) := by rw [i1 x0 y0 hx0a hy0b, if_neg (by omega)]
     refine ⟨laidOver s ((y0 * an + x0) * pn) zs, ⟨by rw [laidOver_length _ _ _ (by rw [hyl, hsl]; exact hm)]; exact hsl, ?_⟩, ?_⟩
     ·intro x y hx hy
      rw [nx_laid hsl hyl hlin (lin_lt hx hy)]
      by_cases q : x = x0 ∧ y = y0
      ·obtain ⟨rfl, rfl⟩ := q
       rw [if_pos rfl, if_pos (by omega), show ((y : Int) - Y).toNat = r by omega, show ((x : Int) - X).toNat = c by omega]
       exact hzs
      ·rw [if_neg (fun z => q (lin_ne hx hx0a z)), i1 x y hx hy]
       by_cases z : X ≤ (x : Int) ∧ (x : Int) < X + wn ∧ Y ≤ (y : Int) ∧ (y : Int) < Y + hn ∧ ((y : Int) < Y + r ∨ ((y : Int) = Y + r ∧ (x : Int) < X + c))
       ·rw [if_pos z, if_pos (by omega)]
       ·rw [if_neg z, if_neg (by omega)]
     ·intro res hres
      have HJ2 := Aside0.mk (at_px2 (X := X) (Y := Y) (x0 := x0) (y0 := y0) (r := r) (c := c) h1.2 (by omega) hx0 hy0 hX hY (by omega) (by omega) (pixJ_nat h1.2 h2.2 h3 hx0a hy0b).1)
      have HJe := Aside0.mk (pixJ_nat h4 h5 h3 hc hr).1
      have HB1 := Aside0.mk (show AllB (nx pn s (y0 * an + x0)) from by rw [hsd]; exact allB_nx hdb _ _)
      have q1 : s.length ≤ 1024 := by omega
      have q2 : e.length ≤ 1024 := by omega
      have q3 : (y0 * an + x0) * pn + pn ≤ s.length := by omega
      have q4 : (r * wn + c) * pn + pn ≤ e.length := by omega
      have HX1 := Aside0.mk (show zs = covL mode alpha (nx pn s (y0 * an + x0)) (nx pn e (r * wn + c)) from by rw [hzs, hsd])
      clear hzs hsd i1
      rw [HX1.out] at hres
      refine Ev.step (f := fun k => (spec_onImage.f an bn pn s (X + (c : Int)) (Y + (r : Int))).bind fun u => if u = true then spec_blendPaste.l2 k (r : Int) (c : Int) 0 an bn pn s wn hn pn e X Y mode alpha hid else spec_blendPaste.l1 k (r : Int) ((c + 1 : Nat) : Int) an bn pn s wn hn pn e X Y mode alpha hid) (fun k => ?_) (ev_now (onImage_eq h1 h2 _ _ _ _) (ev_pos (decide_eq_true on) (blendPx_ev hid hal r c (by omega) (by omega) s e (y0 * an + x0) (r * wn + c) q1 q2 q3 q4 h3 HB1.out (allB_nx heb _ _) HJ2.out HJe.out res hres)))
      simp only [spec_blendPaste.l1]
      rw [if_pos (by omega), w1, w2, w64n c (by omega)]
    ·refine ⟨s, ⟨hsl, fun x y hx hy => ?_⟩, ?_⟩
     ·rw [i1 x y hx hy]
      by_cases z : X ≤ (x : Int) ∧ (x : Int) < X + wn ∧ Y ≤ (y : Int) ∧ (y : Int) < Y + hn ∧ ((y : Int) < Y + r ∨ ((y : Int) = Y + r ∧ (x : Int) < X + c))
      ·rw [if_pos z, if_pos (by omega)]
      ·rw [if_neg z, if_neg (by omega)]
     ·intro res hres
      refine Ev.step (f := fun k => (spec_onImage.f an bn pn s (X + (c : Int)) (Y + (r : Int))).bind fun u => if u = true then spec_blendPaste.l2 k (r : Int) (c : Int) 0 an bn pn s wn hn pn e X Y mode alpha hid else spec_blendPaste.l1 k (r : Int) ((c + 1 : Nat) : Int) an bn pn s wn hn pn e X Y mode alpha hid) (fun k => ?_) (ev_now (onImage_eq h1 h2 _ _ _ _) (ev_neg (by simpa using on) hres))
      simp only [spec_blendPaste.l1]
      rw [if_pos (by omega), w1, w2, w64n c (by omega)])
   (by
    intro s _ res hres
    refine Ev.step (fun k => ?_) hres
    simp only [spec_blendPaste.l1]
    rw [if_neg (by omega), w64n r (by omega)])
   wn 0 s (by omega) hs
  refine ⟨s', ⟨i4.1, fun x y hx hy => ?_⟩, i5⟩
  rw [i4.2 x y hx hy]
  by_cases z : X ≤ (x : Int) ∧ (x : Int) < X + wn ∧ Y ≤ (y : Int) ∧ (y : Int) < Y + hn ∧ ((y : Int) < Y + r ∨ ((y : Int) = Y + r ∧ (x : Int) < X + wn))
  ·rw [if_pos z, if_pos (by omega)]
  ·rw [if_neg z, if_neg (by omega)]
 obtain ⟨s', i4, i5⟩ := ev_run hn (fun k r s => spec_blendPaste.l0 k (r : Int) an bn pn s wn hn pn e X Y mode alpha hid) (fun s _ => some s) (fun r s => I r 0 s)
  (by
   intro r s hr hs
   obtain ⟨s', i1, i2⟩ := inner r hr s hs
   refine ⟨s', i1, fun res hres => Ev.step (fun k => ?_) (i2 res hres)⟩
   simp only [spec_blendPaste.l0]
   rw [if_pos (by omega)])
  (by
   intro s _ res hres
   refine Ev.step (fun k => ?_) hres
   simp only [spec_blendPaste.l0]
   rw [if_neg (by omega)])
  hn 0 d (by omega) ⟨hd, fun x y hx hy => by rw [if_neg (by omega)]⟩
 have q : s' = imgD (covPx an pn d X Y wn hn e mode alpha) an bn := ext_img i4.1 (imgD_length hlen) (fun x y hx hy => by
  rw [i4.2 x y hx hy, nx_imgD hlen hx hy]
  unfold covPx
  by_cases z : X ≤ (x : Int) ∧ (x : Int) < X + wn ∧ Y ≤ (y : Int) ∧ (y : Int) < Y + hn
  ·rw [if_pos z, if_pos (by omega)]
  ·rw [if_neg z, if_neg (by omega)])
 subst q
 exact i5 _ (Ev.now _)

/- Layers that cover an image, one after the other, as the program and the reference have it. -/

abbrev Lay := S55
theorem valid_imgC {an bn pn : Nat} {px : Nat → Nat → List Int} (h1 : 1 ≤ an ∧ an ≤ 16) (h2 : 1 ≤ bn ∧ bn ≤ 16) (h3 : 1 ≤ pn ∧ pn ≤ 4) (hl : ∀ x y, x < an → y < bn → (px x y).length = pn) (hb : ∀ x y, x < an → y < bn → AllB (px x y)) : validI an bn pn (imgD px an bn) = true := by
 refine (validI_iff _ _ _ _).2 ⟨by omega, by rw [imgD_length hl, Nat.mul_comm bn an]; push_cast; rfl, fun n hn => ?_⟩
 unfold imgD rowD at hn
 obtain ⟨y, hy, hn⟩ := List.mem_flatMap.1 hn
 obtain ⟨x, hx, hn⟩ := List.mem_flatMap.1 hn
 exact hb x y (List.mem_range.1 hx) (List.mem_range.1 hy) n hn
theorem valid_le {a b p : Int} {d : List Int} (hv : validI a b p d = true) : d.length ≤ 1024 := by
 obtain ⟨an, bn, pn, _, _, _, q1, q2, q3, q4, q5, q6, q7⟩ := nat_of hv
 rw [q7]
 exact Nat.mul_le_mul (Nat.mul_le_mul q4 q2) q6
def okL (p : Int) (l : Lay) : Bool := layerV l.f0.f0 l.f0.f1 l.f0.f2 l.f0.f3 l.f1 l.f2 l.f3 l.f4 p
def covD (a b p : Int) (d : List Int) (l : Lay) : List Int := imgD (covPx a.toNat p.toNat d l.f1 l.f2 l.f0.f0.toNat l.f0.f1.toNat l.f0.f3 l.f3 l.f4) a.toNat b.toNat
def onD (a b p : Int) (d : List Int) (l : Lay) : List Int := if l.f5 = true then d else covD a b p d l
def flatD (a b p : Int) : List Int → List Lay → List Int
 | d, [] => d
 | d, l :: ls => flatD a b p (onD a b p d l) ls
def flatV (a b p : Int) (d : List Int) (ls : List Lay) : Int × Int × Int × List Int × Bool := if validI a b p d = true ∧ ls.length ≤ 6 ∧ ls.all (okL p) = true then (a, b, p, flatD a b p d ls, true) else (0, 0, 0, [], false)
theorem covD_valid {a b p : Int} {d : List Int} {l : Lay} (hv : validI a b p d = true) (ho : okL p l = true) : validI a b p (covD a b p d l) = true := by
 obtain ⟨hvl, e, hx1, hx2, hy1, hy2, _, _, ha1, ha2⟩ := (layerV_iff _ _ _ _ _ _ _ _ _).1 ho
 have hb1 := ((validI_iff _ _ _ _).1 hv).2.2
 have hb2 := ((validI_iff _ _ _ _).1 hvl).2.2
 obtain ⟨an, bn, pn, rfl, rfl, rfl, q1, q2, q3, q4, q5, q6, q7⟩ := nat_of hv
 obtain ⟨wn, hn, pm, e1, e2, hpm, q11, q12, q13, q14, _, _, q17⟩ := nat_of hvl
 obtain rfl : pn = pm := Int.ofNat.inj (e.symm.trans hpm)
 unfold covD
 rw [e1, e2]
 simp only [Int.toNat_natCast]
 refine valid_imgC ⟨q1, q2⟩ ⟨q3, q4⟩ ⟨q5, q6⟩ (covPx_len _ _ q7 q17) (fun x y hx hy => ?_)
 unfold covPx
 split
 ·exact covL_bytes ⟨ha1, ha2⟩ (allB_nx hb1 _ _) (allB_nx hb2 _ _)
 ·exact allB_nx hb1 _ _
theorem onD_valid {a b p : Int} {d : List Int} {l : Lay} (hv : validI a b p d = true) (ho : okL p l = true) : validI a b p (onD a b p d l) = true := by
 unfold onD
 split
 ·exact hv
 ·exact covD_valid hv ho
theorem flatD_valid {a b p : Int} : ∀ (ls : List Lay) {d : List Int}, validI a b p d = true → ls.all (okL p) = true → validI a b p (flatD a b p d ls) = true
 | [], d, hv, _ => hv
 | l :: ls, d, hv, ho => by
  rw [List.all_cons, Bool.and_eq_true] at ho
  exact flatD_valid ls (onD_valid hv ho.1) ho.2
theorem impl_cover {a b p : Int} {d : List Int} {l : Lay} (hid : Bool) (hv : validI a b p d = true) (ho : okL p l = true) : impl_coverImage.f a b p d l.f0.f0 l.f0.f1 l.f0.f2 l.f0.f3 l.f1 l.f2 l.f3 l.f4 hid = some (a, b, p, covD a b p d l) := by
 obtain ⟨hvl, e, hx1, hx2, hy1, hy2, _, _, ha1, ha2⟩ := (layerV_iff _ _ _ _ _ _ _ _ _).1 ho
 have hb1 := ((validI_iff _ _ _ _).1 hv).2.2
 have hb2 := ((validI_iff _ _ _ _).1 hvl).2.2
 unfold impl_coverImage.f covD
 rw [if_pos ⟨hv, hvl, e, ⟨hx1, hx2⟩, hy1, hy2⟩]
 obtain ⟨an, bn, pn, rfl, rfl, rfl, q1, q2, q3, q4, q5, q6, q7⟩ := nat_of hv
 obtain ⟨wn, hn, pm, e1, e2, _, q11, q12, q13, q14, _, _, _⟩ := nat_of hvl
 rw [e1, e2]
 simp only [Int.toNat_natCast]
 rw [imgD_congr (fun x y hx hy => coverPx_cov q2 q4 q6 q12 q14 ⟨ha1, ha2⟩ hb1 hb2 hx hy)]
theorem spec_cover {a b p : Int} {d : List Int} {l : Lay} (hid : Bool) (hv : validI a b p d = true) (ho : okL p l = true) : Ev (fun k => spec_blendPaste.f k a b p d l.f0.f0 l.f0.f1 l.f0.f2 l.f0.f3 l.f1 l.f2 l.f3 l.f4 hid) (covD a b p d l) := by
 obtain ⟨hvl, e, hx1, hx2, hy1, hy2, _, _, ha1, ha2⟩ := (layerV_iff _ _ _ _ _ _ _ _ _).1 ho
 have hb1 := ((validI_iff _ _ _ _).1 hv).2.2
 have hb2 := ((validI_iff _ _ _ _).1 hvl).2.2
 unfold covD
 obtain ⟨an, bn, pn, rfl, rfl, rfl, q1, q2, q3, q4, q5, q6, q7⟩ := nat_of hv
 obtain ⟨wn, hn, pm, e1, e2, hpm, q11, q12, q13, q14, _, _, q17⟩ := nat_of hvl
 obtain rfl : pn = pm := Int.ofNat.inj (e.symm.trans hpm)
 rw [e1, e2, hpm]
 simp only [Int.toNat_natCast]
 exact blendPaste_ev hid ⟨q1, q2⟩ ⟨q3, q4⟩ q6 q12 q14 ⟨hx1, hx2⟩ ⟨hy1, hy2⟩ ⟨ha1, ha2⟩ d l.f0.f3 q7 q17 hb1 hb2
theorem rdL_nat (l : List Lay) (i : Nat) (h : i < l.length) : rd_T55 l (i : Int) = l[i] := by simp [rd_T55, h]
theorem dropL (l : List Lay) (i : Nat) (h : i < l.length) : l.drop i = l[i] :: l.drop (i + 1) := List.drop_eq_getElem_cons h
theorem copyC_px (a b p : Int) (d : List Int) (hl : d.length ≤ 1000000) : spec_copyImage.f a b p d = some (a, b, p, d) := by
 unfold spec_copyImage.f
 rw [copyInts_px d hl]
 rfl
theorem impl_copyC_px (a b p : Int) (d : List Int) (hl : d.length ≤ 1000000) : impl_copyImage.f a b p d = some (a, b, p, d) := by
 unfold impl_copyImage.f
 simp only [Option.bind_some]
 rw [if_pos (by simp; omega)]
 simp
theorem specFlat_loop (ls : List Lay) (hl : ls.length ≤ 1000000000) (a b p : Int) : ∀ (n i : Nat) (d : List Int), i + n = ls.length → validI a b p d = true → ls.all (okL p) = true →
  Ev (fun k => spec_flatten.l0 k ls (i : Int) a b p d) (a, b, p, flatD a b p d (ls.drop i))
 | 0, i, d, hi, hv, ho => by
  rw [List.drop_of_length_le (by omega)]
  exact Ev.step (f := fun _ => some (a, b, p, d)) (fun k => by simp only [spec_flatten.l0]; rw [if_neg (by omega)]) (Ev.now _)
 | n + 1, i, d, hi, hv, ho => by
  have hlt : i < ls.length := by omega
  have hok : okL p ls[i] = true := List.all_eq_true.1 ho _ (List.getElem_mem hlt)
  rw [dropL ls i hlt, flatD]
  have ih := specFlat_loop ls hl a b p n (i + 1) (onD a b p d ls[i]) (by omega) (onD_valid hv hok) ho
  unfold onD at ih ⊢
  by_cases c : ls[i].f5 = true
  ·rw [if_pos c] at ih ⊢
   refine Ev.step (fun k => ?_) ih
   simp only [spec_flatten.l0]
   rw [if_pos (by omega), if_pos (by omega), rdL_nat ls i hlt, if_pos c, w64n i (by omega)]
  ·rw [if_neg c] at ih ⊢
   refine Ev.step (f := fun k => (spec_blendPaste.f k a b p d ls[i].f0.f0 ls[i].f0.f1 ls[i].f0.f2 ls[i].f0.f3 ls[i].f1 ls[i].f2 ls[i].f3 ls[i].f4 ls[i].f5).bind fun t => spec_flatten.l0 k ls ((i + 1 : Nat) : Int) a b p t) (fun k => ?_) (ev_bind (spec_cover _ hv hok) ih)
   simp only [spec_flatten.l0]
   rw [if_pos (by omega), if_pos (by omega), rdL_nat ls i hlt, if_neg c, w64n i (by omega)]
theorem validLayers_ev (ls : List Lay) (hl : ls.length ≤ 1000000000) (hd : ∀ l ∈ ls, l.f0.f3.length ≤ 1000000000) (p : Int) : ∀ (n i : Nat), i + n = ls.length →
  Ev (fun k => spec_validLayers.l0 k ls p (i : Int)) ((ls.drop i).all (okL p) && decide (ls.length ≤ 6))
 | 0, i, hi => by
  rw [List.drop_of_length_le (by omega)]
  refine ev_val (Ev.step (f := fun _ => some (decide ((ls.length : Int) ≤ 6))) (fun k => by simp only [spec_validLayers.l0]; rw [if_neg (by omega)]) (Ev.now _)) ?_
  rw [List.all_nil, Bool.true_and]
  exact decide_eq_decide.2 (by omega)
 | n + 1, i, hi => by
  have hlt : i < ls.length := by omega
  have hS := spec_validLayer_ev ls[i].f0.f0 ls[i].f0.f1 ls[i].f0.f2 ls[i].f0.f3 ls[i].f1 ls[i].f2 ls[i].f3 ls[i].f4 ls[i].f5 p (by have := hd _ (List.getElem_mem hlt); omega)
  have ih := validLayers_ev ls hl hd p n (i + 1) (by omega)
  rw [dropL ls i hlt, List.all_cons]
  refine Ev.step (f := fun k => (spec_validLayer.f k ls[i].f0.f0 ls[i].f0.f1 ls[i].f0.f2 ls[i].f0.f3 ls[i].f1 ls[i].f2 ls[i].f3 ls[i].f4 ls[i].f5 p).bind fun t => if t = true then spec_validLayers.l0 k ls p ((i + 1 : Nat) : Int) else some false) (fun k => ?_) (ev_bind hS ?_)
  ·simp only [spec_validLayers.l0]
   rw [if_pos (by omega), if_pos (by omega), rdL_nat ls i hlt, w64n i (by omega)]
  ·show Ev (fun k => if okL p ls[i] = true then spec_validLayers.l0 k ls p ((i + 1 : Nat) : Int) else some false) _
   by_cases c : okL p ls[i] = true
   ·rw [c, Bool.true_and]
    exact ev_pos rfl ih
   ·rw [Bool.eq_false_iff.2 c]
    exact ev_neg (by simp) (Ev.now _)
theorem spec_FlattenLayers_ev (a b p : Int) (d : List Int) (ls : List Lay) (h0 : d.length ≤ 2000000) (hl : ls.length ≤ 1000000000) (hd : ∀ l ∈ ls, l.f0.f3.length ≤ 1000000000) : Ev (fun k => spec_FlattenLayers.f k a b p d ls) (flatV a b p d ls) := by
 unfold spec_FlattenLayers.f flatV spec_validLayers.f spec_flatten.f
 refine ev_bind (spec_validImage_ev a b p d (by omega)) ?_
 by_cases c : validI a b p d = true
 ·refine ev_pos c (ev_bind (validLayers_ev ls hl hd p ls.length 0 (by omega)) ?_)
  rw [List.drop_zero]
  by_cases c2 : ls.length ≤ 6 ∧ ls.all (okL p) = true
  ·rw [if_pos ⟨c, c2⟩, c2.2, decide_eq_true c2.1]
   have h := specFlat_loop ls hl a b p ls.length 0 d (by omega) c c2.2
   rw [List.drop_zero] at h
   exact ev_pos rfl (ev_bind (ev_now (copyC_px a b p d (by have := valid_le c; omega)) h) (Ev.now _))
  ·rw [if_neg (fun h => c2 h.2)]
   refine ev_neg ?_ (Ev.now _)
   rw [Bool.and_eq_true, decide_eq_true_iff]
   exact fun h => c2 ⟨h.2, h.1⟩
 ·rw [if_neg (fun h => c h.1)]
  exact ev_neg c (Ev.now _)
theorem implFlat_loop (ls : List Lay) (hl : ls.length ≤ 1000000000) (a b p : Int) (d0 : List Int) : ∀ (n i : Nat) (d : List Int), i + n = ls.length → validI a b p d = true →
  Ev (fun k => impl_flatten.l0 k ls (ls.length : Int) (i : Int) a b p d0 a b p d) (if (ls.drop i).all (okL p) = true then (a, b, p, flatD a b p d (ls.drop i), true) else (0, 0, 0, [], false))
 | 0, i, d, hi, hv => by
  rw [List.drop_of_length_le (by omega)]
  exact Ev.step (f := fun _ => some (a, b, p, d, true)) (fun k => by simp only [impl_flatten.l0]; rw [if_neg (by omega)]) (Ev.now _)
 | n + 1, i, d, hi, hv => by
  have hlt : i < ls.length := by omega
  have hL := impl_isLayer_eq ls[i].f0.f0 ls[i].f0.f1 ls[i].f0.f2 ls[i].f0.f3 ls[i].f1 ls[i].f2 ls[i].f3 ls[i].f4 ls[i].f5 p
  rw [dropL ls i hlt, List.all_cons, flatD]
  refine Ev.step (f := fun k => (impl_isLayer.f ls[i].f0.f0 ls[i].f0.f1 ls[i].f0.f2 ls[i].f0.f3 ls[i].f1 ls[i].f2 ls[i].f3 ls[i].f4 ls[i].f5 p).bind fun t => if t = true then (if ls[i].f5 = true then impl_flatten.l0 k ls (ls.length : Int) ((i + 1 : Nat) : Int) a b p d0 a b p d else (impl_coverImage.f a b p d ls[i].f0.f0 ls[i].f0.f1 ls[i].f0.f2 ls[i].f0.f3 ls[i].f1 ls[i].f2 ls[i].f3 ls[i].f4 ls[i].f5).bind fun u => impl_flatten.l0 k ls (ls.length : Int) ((i + 1 : Nat) : Int) a b p d0 u.1 u.2.1 u.2.2.1 u.2.2.2) else some (0, 0, 0, [], false)) (fun k => ?_) (ev_now hL ?_)
  ·simp only [impl_flatten.l0]
   rw [if_pos (by omega), if_pos (by omega), if_pos (by omega), rdL_nat ls i hlt, w64n i (by omega)]
  ·show Ev (fun k => if okL p ls[i] = true then (if ls[i].f5 = true then impl_flatten.l0 k ls (ls.length : Int) ((i + 1 : Nat) : Int) a b p d0 a b p d else (impl_coverImage.f a b p d ls[i].f0.f0 ls[i].f0.f1 ls[i].f0.f2 ls[i].f0.f3 ls[i].f1 ls[i].f2 ls[i].f3 ls[i].f4 ls[i].f5).bind fun u => impl_flatten.l0 k ls (ls.length : Int) ((i + 1 : Nat) : Int) a b p d0 u.1 u.2.1 u.2.2.1 u.2.2.2) else some (0, 0, 0, [], false)) _
   by_cases hok : okL p ls[i] = true
   ·rw [hok, Bool.true_and]
    refine ev_pos rfl ?_
    have ih := implFlat_loop ls hl a b p d0 n (i + 1) (onD a b p d ls[i]) (by omega) (onD_valid hv hok)
    unfold onD at ih ⊢
    by_cases c : ls[i].f5 = true
    ·rw [if_pos c] at ih ⊢
     exact ev_pos c ih
    ·rw [if_neg c] at ih ⊢
     exact ev_neg c (ev_now (impl_cover _ hv hok) ih)
   ·rw [Bool.eq_false_iff.2 hok]
    exact ev_neg (by simp) (Ev.now _)
theorem impl_flatten_ev (a b p : Int) (d : List Int) (ls : List Lay) : Ev (fun k => impl_flatten.f k a b p d ls) (flatV a b p d ls) := by
 unfold impl_flatten.f flatV
 refine ev_now (impl_isImage_eq a b p d) ?_
 by_cases c : validI a b p d = true
 ·refine ev_pos c ?_
  by_cases c2 : ls.length ≤ 6
  ·have h := implFlat_loop ls (by omega) a b p d ls.length 0 d (by omega) c
   rw [List.drop_zero] at h
   refine Ev.step (f := fun k => (impl_copyImage.f a b p d).bind fun t => impl_flatten.l0 k ls (ls.length : Int) 0 a b p d t.1 t.2.1 t.2.2.1 t.2.2.2) (fun k => ?_) (ev_now (impl_copyC_px a b p d (by have := valid_le c; omega)) (ev_val h ?_))
   ·simp only [impl_flatten.j0]
    rw [if_neg (by simp; omega)]
   ·by_cases c3 : ls.all (okL p) = true
    ·rw [if_pos c3, if_pos ⟨c, c2, c3⟩]
    ·rw [if_neg c3, if_neg (fun h => c3 h.2.2)]
  ·rw [if_neg (fun h => c2 h.2.1)]
   refine Ev.step (f := fun _ => some (0, 0, 0, [], false)) (fun k => ?_) (Ev.now _)
   simp only [impl_flatten.j0]
   rw [if_pos (by simp; omega)]
 ·rw [if_neg (fun h => c h.1)]
  refine ev_neg c (Ev.step (f := fun _ => some (0, 0, 0, [], false)) (fun k => ?_) (Ev.now _))
  simp only [impl_flatten.j0]
  rw [if_pos trivial]
theorem impl_FlattenLayers_ev (a b p : Int) (d : List Int) (ls : List Lay) : Ev (fun k => impl_FlattenLayers.f k a b p d ls) (flatV a b p d ls) := by
 unfold impl_FlattenLayers.f
 exact ev_bind (impl_flatten_ev a b p d ls) (Ev.now _)

/- A tile that a layer does not touch is the same in the covered image. -/

theorem tile_box {an bn t : Nat} (h1 : 1 ≤ an ∧ an ≤ 16) (h2 : 1 ≤ bn ∧ bn ≤ 16) (ht : t < colsOf an * colsOf bn) : ∃ x0 y0 w0 h0 : Nat, tileN an bn t = ⟨(x0 : Int), (y0 : Int), (w0 : Int), (h0 : Int)⟩ ∧ 1 ≤ w0 ∧ 1 ≤ h0 ∧ x0 + w0 ≤ an ∧ y0 + h0 ≤ bn := by
 have hc := cols_bounds an h1.1 h1.2
 have hr := cols_bounds bn h2.1 h2.2
 have hx : t % colsOf an < colsOf an := Nat.mod_lt _ (by omega)
 have hy : t / colsOf an < colsOf bn := (Nat.div_lt_iff_lt_mul (by omega)).2 (by rw [Nat.mul_comm]; exact ht)
 refine ⟨t % colsOf an * 4, t / colsOf an * 4, (mn 4 ((an : Int) - ((t % colsOf an * 4 : Nat) : Int))).toNat, (mn 4 ((bn : Int) - ((t / colsOf an * 4 : Nat) : Int))).toNat, ?_⟩
 generalize hq' : t % colsOf an = q at *
 generalize ht' : t / colsOf an = r at *
 have hq4 : q * 4 < an := by unfold colsOf at hx; omega
 have hr4 : r * 4 < bn := by unfold colsOf at hy; omega
 have m1 : 1 ≤ mn 4 ((an : Int) - ((q * 4 : Nat) : Int)) ∧ mn 4 ((an : Int) - ((q * 4 : Nat) : Int)) ≤ (an : Int) - ((q * 4 : Nat) : Int) := by unfold mn; split <;> omega
 have m2 : 1 ≤ mn 4 ((bn : Int) - ((r * 4 : Nat) : Int)) ∧ mn 4 ((bn : Int) - ((r * 4 : Nat) : Int)) ≤ (bn : Int) - ((r * 4 : Nat) : Int) := by unfold mn; split <;> omega
 refine ⟨?_, by omega, by omega, by omega, by omega⟩
 rw [Int.toNat_of_nonneg (by omega), Int.toNat_of_nonneg (by omega)]
 unfold tileN
 rw [hq', ht']

/- RedrawTiles, as the program and the reference have it. -/

abbrev Bxx := S47
def rdN (ts : List Int) (i : Nat) : Int := ts.getD i 0
theorem rd_rdN (ts : List Int) (i : Nat) : rd ts (i : Int) = rdN ts i := by simp [rd, rdN]
def okAt (n : Nat) (ts : List Int) (i : Nat) : Bool := decide (0 ≤ rdN ts i ∧ rdN ts i < (n : Int) ∧ (0 < i → rdN ts (i - 1) < rdN ts i))
def okTs (n : Nat) (ts : List Int) : Bool := (List.range ts.length).all (okAt n ts)
theorem okTs_iff (n : Nat) (ts : List Int) : okTs n ts = true ↔ ∀ i, i < ts.length → okAt n ts i = true := by simp [okTs, List.all_eq_true]
theorem okAt_iff (n : Nat) (ts : List Int) (i : Nat) : okAt n ts i = true ↔ 0 ≤ rdN ts i ∧ rdN ts i < (n : Int) ∧ (0 < i → rdN ts (i - 1) < rdN ts i) := by unfold okAt; exact decide_eq_true_iff
def boxT (an bn : Nat) (t : Int) : Bxx := tileN an bn t.toNat
def boxesT (an bn : Nat) (ts : List Int) : List Bxx := ts.map (boxT an bn)
theorem rdN_get (ts : List Int) (i : Nat) (h : i < ts.length) : rdN ts i = ts[i] := by simp [rdN, h]
theorem boxT_on {an bn : Nat} (h1 : 1 ≤ an ∧ an ≤ 16) (h2 : 1 ≤ bn ∧ bn ≤ 16) {t : Int} (h0 : 0 ≤ t) (ht : t < (colsOf an * colsOf bn : Nat)) : onB an bn (boxT an bn t) = true := by
 obtain ⟨x0, y0, w0, h0', e, q1, q2, q3, q4⟩ := tile_box h1 h2 (t := t.toNat) (by omega)
 unfold boxT
 rw [e, onB_iff]
 refine ⟨?_, ?_, ?_, ?_, ?_, ?_, ?_, ?_⟩
 ·show (0 : Int) ≤ (x0 : Int); omega
 ·show (x0 : Int) < (an : Int); omega
 ·show (0 : Int) ≤ (y0 : Int); omega
 ·show (y0 : Int) < (bn : Int); omega
 ·show (1 : Int) ≤ (w0 : Int); omega
 ·show (w0 : Int) ≤ (an : Int) - (x0 : Int); omega
 ·show (1 : Int) ≤ (h0' : Int); omega
 ·show (h0' : Int) ≤ (bn : Int) - (y0 : Int); omega
theorem boxesT_on {an bn : Nat} (h1 : 1 ≤ an ∧ an ≤ 16) (h2 : 1 ≤ bn ∧ bn ≤ 16) {ts : List Int} (h : okTs (colsOf an * colsOf bn) ts = true) : (boxesT an bn ts).all (onB an bn) = true := by
 refine List.all_eq_true.2 fun r hr => ?_
 obtain ⟨t, ht, rfl⟩ := List.mem_map.1 hr
 obtain ⟨i, hi, rfl⟩ := List.mem_iff_getElem.1 ht
 obtain ⟨g1, g2, _⟩ := (okAt_iff _ _ _).1 ((okTs_iff _ _).1 h i hi)
 rw [rdN_get ts i hi] at g1 g2
 exact boxT_on h1 h2 g1 g2
theorem patched_is {a b p : Int} {d e : List Int} {l : List Bxx} (c1 : validI a b p d = true) (c2 : validI a b p e = true) (hall : l.all (onB a b) = true) : impl_patched.f a b p d a b p e l = some (a, b, p, imgD (patchPx a.toNat p.toNat d e l) a.toNat b.toNat) := by
 unfold impl_patched.f
 rw [if_pos ⟨c1, c2, rfl, rfl, rfl, hall⟩]
 obtain ⟨an, bn, pn, rfl, rfl, rfl, q1, q2, q3, q4, q5, q6, q7⟩ := nat_of c1
 obtain ⟨_, _, _, f1, f2, f3, _, _, _, _, _, _, q8⟩ := nat_of c2
 have f1 := Int.ofNat.inj f1
 have f2 := Int.ofNat.inj f2
 have f3 := Int.ofNat.inj f3
 subst f1 f2 f3
 obtain ⟨i1, i2⟩ := patchD_nx q2 q4 q6 q8 l (List.all_eq_true.1 hall) d q7
 simp only [Int.toNat_natCast]
 have hlen := patchPx_len q7 q8 l
 rw [ext_img i1 (imgD_length hlen) (fun x y hx hy => by rw [i2 x y hx hy, nx_imgD hlen hx hy])]
def redrawV (a b p : Int) (d : List Int) (a' b' p' : Int) (e : List Int) (ls : List Lay) (ts : List Int) : Int × Int × Int × List Int × Bool :=
 if sameV a b p d a' b' p' e = true ∧ (ls.length ≤ 6 ∧ ls.all (okL p') = true) ∧ okTs (colsOf a.toNat * colsOf b.toNat) ts = true then (a, b, p, imgD (patchPx a.toNat p.toNat d (flatD a b p e ls) (boxesT a.toNat b.toNat ts)) a.toNat b.toNat, true) else (0, 0, 0, [], false)
theorem spec_RedrawTiles_ev (a b p : Int) (d : List Int) (a' b' p' : Int) (e : List Int) (ls : List Lay) (ts : List Int) (hd0 : d.length ≤ 2000000) (he0 : e.length ≤ 2000000) (hl : ls.length ≤ 1000000000) (hpl : ∀ l ∈ ls, l.f0.f3.length ≤ 1000000000) (htl : ts.length ≤ 2000000) :
  Ev (fun k => spec_RedrawTiles.f k a b p d a' b' p' e ls ts) (redrawV a b p d a' b' p' e ls ts) := by
 unfold spec_RedrawTiles.f
 have stop : ∀ (q : Bool) (f0 f1 f2 : Int) (f3 : List Int), ¬ (sameV a b p d a' b' p' e = true ∧ (ls.length ≤ 6 ∧ ls.all (okL p') = true) ∧ okTs (colsOf a.toNat * colsOf b.toNat) ts = true) → q = true → Ev (fun k => spec_RedrawTiles.j0 k ts q a b p d a' b' p' e f0 f1 f2 f3) (redrawV a b p d a' b' p' e ls ts) := by
  intro q f0 f1 f2 f3 hn hq
  subst hq
  unfold redrawV
  rw [if_neg hn]
  refine Ev.step (f := fun _ => some (0, 0, 0, [], false)) (fun k => ?_) (Ev.now _)
  simp only [spec_RedrawTiles.j0]
  rw [if_pos trivial]
 have hF := spec_FlattenLayers_ev a' b' p' e ls he0 hl hpl
 by_cases cf : validI a' b' p' e = true ∧ ls.length ≤ 6 ∧ ls.all (okL p') = true
 ·have he : flatV a' b' p' e ls = (a', b', p', flatD a' b' p' e ls, true) := by unfold flatV; rw [if_pos cf]
  rw [he] at hF
  refine ev_bind hF (ev_pos rfl (ev_bind (spec_validImage_ev a b p d (by omega)) ?_))
  by_cases c1 : validI a b p d = true
  ·refine ev_pos c1 ?_
   by_cases e1 : a = a'
   ·refine ev_pos e1 ?_
    by_cases e2 : b = b'
    ·refine ev_pos e2 ?_
     by_cases e3 : p = p'
     ·subst e1 e2 e3
      have hsame : sameV a b p d a b p e = true := (sameV_iff _ _ _ _ _ _ _ _).2 ⟨c1, cf.1, rfl, rfl, rfl⟩
      have hfv := flatD_valid ls cf.1 cf.2.2
      generalize hD : flatD a b p e ls = D at *
      refine Ev.step (f := fun k => (spec_copyImage.f a b p d).bind fun t => spec_RedrawTiles.l0 k ts 0 a b p e a b p D t.1 t.2.1 t.2.2.1 t.2.2.2) (fun k => ?_) (ev_now (copyC_px a b p d (by have := valid_le c1; omega)) ?_)
      ·simp only [spec_RedrawTiles.j0]
       rw [if_neg (by simp)]
      ·have hV : ∀ x, okTs (colsOf a.toNat * colsOf b.toNat) ts = true → x = imgD (patchPx a.toNat p.toNat d D (boxesT a.toNat b.toNat ts)) a.toNat b.toNat → (a, b, p, x, true) = redrawV a b p d a b p e ls ts := by
        intro x ho hx
        unfold redrawV
        rw [if_pos ⟨hsame, cf.2, ho⟩, hD, hx]
       have hV0 : okTs (colsOf a.toNat * colsOf b.toNat) ts = false → ((0, 0, 0, [], false) : Int × Int × Int × List Int × Bool) = redrawV a b p d a b p e ls ts := by
        intro ho
        unfold redrawV
        rw [if_neg (fun h => by rw [ho] at h; cases h.2.2)]
       generalize redrawV a b p d a b p e ls ts = V at hV hV0
       obtain ⟨an, bn, pn, rfl, rfl, rfl, q1, q2, q3, q4, q5, q6, q7⟩ := nat_of c1
       obtain ⟨_, _, _, f1, f2, f3, _, _, _, _, _, _, q8⟩ := nat_of hfv
       have f1 := Int.ofNat.inj f1
       have f2 := Int.ofNat.inj f2
       have f3 := Int.ofNat.inj f3
       subst f1 f2 f3
       simp only [Int.toNat_natCast] at hV hV0
       have hcount := tiles_count an bn q1 q2 q3 q4
       have htc := spec_tileCount_eq an bn (pn : Int) e q1 q2 q3 q4
       generalize hN : colsOf an * colsOf bn = N at hV hV0 hcount htc
       refine ev_up2 ts.length (fun k i (s : List Int) => spec_RedrawTiles.l0 k ts (i : Int) an bn pn e an bn pn D an bn pn s) (fun i s => (∀ q, q < i → okAt N ts q = true) ∧ s.length = (bn * an) * pn ∧ ∀ x y, x < an → y < bn → nx pn s (y * an + x) = patchPx an pn d D (boxesT an bn (ts.take i)) x y) (fun _ _ => V) ?_ ?_ ts.length 0 d (by omega) ⟨fun q hq => by omega, q7, fun x y hx hy => by simp [patchPx, boxesT]⟩
       ·intro i s hi ⟨hinv, hsl, hpx⟩
        have hrd : rd ts (i : Int) = rdN ts i := rd_rdN ts i
        have hfl : (if (i : Int) > 0 then decide (rdN ts i ≤ rdN ts (i - 1)) else false) = decide (0 < i ∧ rdN ts i ≤ rdN ts (i - 1)) := by
         by_cases ci : 0 < i
         ·rw [if_pos (by omega)]
          exact decide_eq_decide.2 ⟨fun h => ⟨ci, h⟩, fun h => h.2⟩
         ·rw [if_neg (by omega), decide_eq_false (fun h => ci h.1)]
        cases hb : okAt N ts i with
        | false =>
         left
         have hnot : okTs N ts = false := by
          rw [Bool.eq_false_iff]
          intro h
          have := (okTs_iff _ _).1 h i hi
          rw [hb] at this; cases this
         rw [← hV0 hnot]
         have hn := fun h => Bool.eq_false_iff.1 hb ((okAt_iff N ts i).2 h)
         have stopj : Ev (fun k => spec_RedrawTiles.j2 k ts (i : Int) true an bn pn e an bn pn D an bn pn s) ((0, 0, 0, [], false) : Int × Int × Int × List Int × Bool) := by
          refine Ev.step (f := fun _ => some (0, 0, 0, [], false)) (fun k => ?_) (Ev.now _)
          simp only [spec_RedrawTiles.j2]
          rw [if_pos trivial]
         by_cases cr : 0 ≤ rdN ts i ∧ rdN ts i ≤ (N : Int) - 1
         ·have hord : 0 < i ∧ rdN ts i ≤ rdN ts (i - 1) := by
           by_cases ci : 0 < i
           ·refine ⟨ci, ?_⟩
            by_cases cl : rdN ts i ≤ rdN ts (i - 1)
            ·exact cl
            ·exact absurd ⟨cr.1, by omega, fun _ => by omega⟩ hn
           ·exact absurd ⟨cr.1, by omega, fun h => absurd h ci⟩ hn
          refine Ev.step (fun k => ?_) stopj
          simp only [spec_RedrawTiles.l0]
          rw [if_pos (by omega), if_pos (by omega), htc]
          simp only [Option.bind_some]
          rw [w64 (x := (N : Int) - 1) (by omega) (by omega), spec_inRangeI_eq, hrd]
          simp only [Option.bind_some]
          rw [decide_eq_true cr.1, decide_eq_true cr.2, if_pos (by rfl), if_pos (by omega), w64 (x := (i : Int) - 1) (by omega) (by omega), if_pos (by omega), if_pos (by omega), show (i : Int) - 1 = ((i - 1 : Nat) : Int) by omega, rd_rdN, decide_eq_true hord.2]
         ·refine Ev.step (fun k => ?_) stopj
          simp only [spec_RedrawTiles.l0]
          rw [if_pos (by omega), if_pos (by omega), htc]
          simp only [Option.bind_some]
          rw [w64 (x := (N : Int) - 1) (by omega) (by omega), spec_inRangeI_eq, hrd]
          simp only [Option.bind_some]
          rw [if_neg (by rw [Bool.and_eq_true, decide_eq_true_iff, decide_eq_true_iff]; exact cr)]
        | true =>
         right
         obtain ⟨g1, g2, g3⟩ := (okAt_iff N ts i).1 hb
         obtain ⟨t, ht⟩ := Int.eq_ofNat_of_zero_le g1
         have htN : t < colsOf an * colsOf bn := by rw [hN]; omega
         obtain ⟨X, Y, W, H, hr, hW, hH, hXW, hYH⟩ := tile_box ⟨q1, q2⟩ ⟨q3, q4⟩ htN
         have htb := spec_tileBox_eq an bn (pn : Int) e t q1 q2 q3 q4 (by omega)
         rw [hr] at htb
         have hcl := cropD_len (X := X) (Y := Y) (wn := W) (hn := H) q8 (by omega) (by omega)
         have hcD : (cropD an pn D X Y W H).length = (H * W) * pn := imgD_length hcl
         have hpl2 := pastePx_len (X := (X : Int)) (Y := (Y : Int)) hsl hcD
         refine ⟨imgD (pastePx an pn s X Y W H (cropD an pn D X Y W H)) an bn, fun res hres => ?_, ⟨fun q hq => ?_, imgD_length hpl2, fun x y hx hy => ?_⟩, rfl⟩
         ·have hj : Ev (fun k => spec_RedrawTiles.j2 k ts (i : Int) false an bn pn e an bn pn D an bn pn s) res := by
           refine Ev.step (f := fun k => (spec_tileBox.f an bn pn e (t : Int)).bind fun u => (spec_crop.f k an bn pn D u.1 u.2.1 u.2.2.1 u.2.2.2).bind fun g => (spec_paste.f k an bn pn s u.1 u.2.1 g.1 g.2.1 g.2.2.1 g.2.2.2).bind fun v => spec_RedrawTiles.l0 k ts ((i + 1 : Nat) : Int) an bn pn e an bn pn D an bn pn v) (fun k => ?_) (ev_now htb (ev_bind (crop_ev q2 q4 q6 (by omega) (by omega) D q8) (ev_bind (paste_ev (X := (X : Int)) (Y := (Y : Int)) ⟨q1, q2⟩ ⟨q3, q4⟩ q6 (by omega) (by omega) (by omega) (by omega) s _ hsl hcD) hres)))
           simp only [spec_RedrawTiles.j2]
           rw [if_neg (by simp), if_pos (by omega), if_pos (by omega), hrd, ht, w64n i (by omega)]
          refine Ev.step (fun k => ?_) hj
          simp only [spec_RedrawTiles.l0]
          rw [if_pos (by omega), if_pos (by omega), htc]
          simp only [Option.bind_some]
          rw [w64 (x := (N : Int) - 1) (by omega) (by omega), spec_inRangeI_eq, hrd]
          simp only [Option.bind_some]
          rw [decide_eq_true g1, decide_eq_true (show rdN ts i ≤ (N : Int) - 1 by omega), if_pos (by rfl)]
          by_cases ci : 0 < i
          ·rw [if_pos (by omega), w64 (x := (i : Int) - 1) (by omega) (by omega), if_pos (by omega), if_pos (by omega), show (i : Int) - 1 = ((i - 1 : Nat) : Int) by omega, rd_rdN, decide_eq_false (by have := g3 ci; omega)]
          ·rw [if_neg (by omega)]
         ·by_cases cq : q = i
          ·rw [cq]; exact hb
          ·exact hinv q (by omega)
         ·rw [nx_imgD hpl2 hx hy]
          have hbt : boxesT an bn (ts.take (i + 1)) = boxesT an bn (ts.take i) ++ [⟨X, Y, W, H⟩] := by
           unfold boxesT
           rw [List.take_succ_eq_append_getElem hi, List.map_append, List.map_cons, List.map_nil]
           congr 2
           unfold boxT
           rw [← rdN_get ts i hi, ht, Int.toNat_natCast, hr]
          rw [hbt]
          unfold pastePx patchPx
          rw [List.any_append, List.any_cons, List.any_nil, Bool.or_false]
          have hbx : inBx (⟨X, Y, W, H⟩ : Bxx) x y = decide ((X : Int) ≤ x ∧ (x : Int) < (X : Int) + W ∧ (Y : Int) ≤ y ∧ (y : Int) < (Y : Int) + H) := rfl
          rw [hbx]
          by_cases z : (X : Int) ≤ x ∧ (x : Int) < (X : Int) + W ∧ (Y : Int) ≤ y ∧ (y : Int) < (Y : Int) + H
          ·rw [if_pos z, decide_eq_true z, Bool.or_true, if_pos rfl]
           unfold cropD
           rw [nx_imgD hcl (by omega) (by omega)]
           congr 2
           ·congr 1
            omega
           ·omega
          ·rw [if_neg z, decide_eq_false z, Bool.or_false, hpx x y hx hy]
           rfl
       ·intro s ⟨hinv, hsl, hpx⟩
        rw [List.take_length] at hpx
        have ho : okTs N ts = true := (okTs_iff _ _).2 hinv
        have hlen := patchPx_len q7 q8 (boxesT an bn ts)
        rw [← hV s ho (ext_img hsl (imgD_length hlen) (fun x y hx hy => by rw [hpx x y hx hy, nx_imgD hlen hx hy]))]
        refine Ev.step (f := fun _ => some ((an : Int), (bn : Int), (pn : Int), s, true)) (fun k => ?_) (Ev.now _)
        simp only [spec_RedrawTiles.l0]
        rw [if_neg (by omega)]
     ·exact stop _ _ _ _ _ (fun h => e3 ((sameV_iff _ _ _ _ _ _ _ _).1 h.1).2.2.2.2) (by simpa using e3)
    ·exact ev_neg e2 (stop _ _ _ _ _ (fun h => e2 ((sameV_iff _ _ _ _ _ _ _ _).1 h.1).2.2.2.1) rfl)
   ·exact ev_neg e1 (stop _ _ _ _ _ (fun h => e1 ((sameV_iff _ _ _ _ _ _ _ _).1 h.1).2.2.1) rfl)
  ·exact ev_neg c1 (stop _ _ _ _ _ (fun h => c1 ((sameV_iff _ _ _ _ _ _ _ _).1 h.1).1) rfl)
 ·have he : flatV a' b' p' e ls = (0, 0, 0, [], false) := by unfold flatV; rw [if_neg cf]
  rw [he] at hF
  exact ev_bind hF (ev_neg (by simp) (stop _ _ _ _ _ (fun h => cf ⟨((sameV_iff _ _ _ _ _ _ _ _).1 h.1).2.1, h.2.1⟩) rfl))
theorem tilesV_get (an bn t : Nat) (ht : t < colsOf an * colsOf bn) : rd_T47 (tilesV an bn) (t : Int) = tileN an bn t := by
 have hl : t < (tilesV an bn).length := by unfold tilesV; rw [tilesN_length]; exact ht
 simp [rd_T47, tilesV, tilesN]
 rw [List.getElem?_range ht]
 rfl
theorem impl_RedrawTiles_ev (a b p : Int) (d : List Int) (a' b' p' : Int) (e : List Int) (ls : List Lay) (ts : List Int) (htl : ts.length ≤ 2000000) :
  Ev (fun k => impl_RedrawTiles.f k a b p d a' b' p' e ls ts) (redrawV a b p d a' b' p' e ls ts) := by
 unfold impl_RedrawTiles.f
 have stop : ∀ (q : Bool), ¬ (sameV a b p d a' b' p' e = true ∧ (ls.length ≤ 6 ∧ ls.all (okL p') = true) ∧ okTs (colsOf a.toNat * colsOf b.toNat) ts = true) → q = true → Ev (fun k => impl_RedrawTiles.j0 k ls ts q a b p d a' b' p' e) (redrawV a b p d a' b' p' e ls ts) := by
  intro q hn hq
  subst hq
  unfold redrawV
  rw [if_neg hn]
  refine Ev.step (f := fun _ => some (0, 0, 0, [], false)) (fun k => ?_) (Ev.now _)
  simp only [impl_RedrawTiles.j0]
  rw [if_pos trivial]
 refine ev_now (impl_isImage_eq a b p d) ?_
 by_cases c1 : validI a b p d = true
 ·refine ev_pos c1 (ev_now (impl_isImage_eq a' b' p' e) ?_)
  by_cases c2 : validI a' b' p' e = true
  ·refine ev_pos c2 (ev_now (impl_alike_eq a b p d a' b' p' e) ?_)
   by_cases c3 : a = a' ∧ b = b' ∧ p = p'
   ·have hsame : sameV a b p d a' b' p' e = true := (sameV_iff _ _ _ _ _ _ _ _).2 ⟨c1, c2, c3.1, c3.2.1, c3.2.2⟩
    rw [decide_eq_true c3]
    obtain ⟨rfl, rfl, rfl⟩ := c3
    have hF := impl_flatten_ev a b p e ls
    have hV : ls.length ≤ 6 ∧ ls.all (okL p) = true → okTs (colsOf a.toNat * colsOf b.toNat) ts = true → (a, b, p, imgD (patchPx a.toNat p.toNat d (flatD a b p e ls) (boxesT a.toNat b.toNat ts)) a.toNat b.toNat, true) = redrawV a b p d a b p e ls ts := by
     intro h1 h2
     unfold redrawV
     rw [if_pos ⟨hsame, h1, h2⟩]
    have hV0 : ¬ ((ls.length ≤ 6 ∧ ls.all (okL p) = true) ∧ okTs (colsOf a.toNat * colsOf b.toNat) ts = true) → ((0, 0, 0, [], false) : Int × Int × Int × List Int × Bool) = redrawV a b p d a b p e ls ts := by
     intro h
     unfold redrawV
     rw [if_neg (fun g => h g.2)]
    have hpatch : ls.length ≤ 6 ∧ ls.all (okL p) = true → okTs (colsOf a.toNat * colsOf b.toNat) ts = true → impl_patched.f a b p d a b p (flatD a b p e ls) (boxesT a.toNat b.toNat ts) = some (a, b, p, imgD (patchPx a.toNat p.toNat d (flatD a b p e ls) (boxesT a.toNat b.toNat ts)) a.toNat b.toNat) := by
     intro h1 h2
     refine patched_is c1 (flatD_valid ls c2 h1.2) ?_
     obtain ⟨an, bn, pn, rfl, rfl, rfl, q1, q2, q3, q4, q5, q6, q7⟩ := nat_of c1
     exact boxesT_on ⟨q1, q2⟩ ⟨q3, q4⟩ h2
    generalize redrawV a b p d a b p e ls ts = V at hV hV0
    have hfl : Ev (fun k => impl_flatten.f k a b p e ls) (if ls.length ≤ 6 ∧ ls.all (okL p) = true then (a, b, p, flatD a b p e ls, true) else (0, 0, 0, [], false)) := by
     refine ev_val hF ?_
     unfold flatV
     by_cases h : ls.length ≤ 6 ∧ ls.all (okL p) = true
     ·rw [if_pos ⟨c2, h⟩, if_pos h]
     ·rw [if_neg (fun g => h g.2), if_neg h]
    generalize flatD a b p e ls = D at hV hpatch hfl
    have htb : Ev (fun k => impl_tileBoxes.f k a b p e) (tilesV a.toNat b.toNat) := by
     obtain ⟨an, bn, pn, rfl, rfl, rfl, q1, q2, q3, q4, q5, q6, q7⟩ := nat_of c1
     exact impl_tileBoxes_ev an bn pn e q1 q2 q3 q4
    have hlen : (tilesV a.toNat b.toNat).length = colsOf a.toNat * colsOf b.toNat := tilesN_length _ _ _
    have hcount : colsOf a.toNat * colsOf b.toNat ≤ 16 := by
     obtain ⟨an, bn, pn, rfl, rfl, rfl, q1, q2, q3, q4, q5, q6, q7⟩ := nat_of c1
     exact (tiles_count an bn q1 q2 q3 q4).2
    have hget : ∀ t : Nat, t < colsOf a.toNat * colsOf b.toNat → rd_T47 (tilesV a.toNat b.toNat) (t : Int) = tileN a.toNat b.toNat t := fun t ht => tilesV_get _ _ t ht
    generalize hTB : tilesV a.toNat b.toNat = TB at htb hlen hget
    generalize hN : colsOf a.toNat * colsOf b.toNat = N at hV hV0 hpatch hlen hcount hget
    refine Ev.step (f := fun k => (impl_tileBoxes.f k a b p e).bind fun t => impl_RedrawTiles.l0 k ls ts t ts (ts.length : Int) 0 a b p d a b p e) (fun k => ?_) (ev_bind htb ?_)
    ·simp only [impl_RedrawTiles.j0]
     rw [if_neg (by simp)]
    ·refine ev_up2 ts.length (fun k i (_ : Unit) => impl_RedrawTiles.l0 k ls ts TB ts (ts.length : Int) (i : Int) a b p d a b p e) (fun i _ => ∀ q, q < i → okAt N ts q = true) (fun _ _ => V) ?_ ?_ ts.length 0 () (by omega) (fun q hq => by omega)
     ·intro i _ hi hinv
      have hrd : rd ts (i : Int) = rdN ts i := rd_rdN ts i
      cases hb : okAt N ts i with
      | false =>
       left
       have hnot : ¬ okTs N ts = true := fun h => by
        have := (okTs_iff _ _).1 h i hi
        rw [hb] at this; cases this
       rw [← hV0 (fun h => hnot h.2)]
       have hn := fun h => Bool.eq_false_iff.1 hb ((okAt_iff N ts i).2 h)
       refine Ev.step (f := fun _ => some (0, 0, 0, [], false)) (fun k => ?_) (Ev.now _)
       simp only [impl_RedrawTiles.l0]
       rw [if_pos (by omega), if_pos (by omega), if_pos (by omega), hrd]
       by_cases n1 : rdN ts i < 0
       ·rw [if_pos n1]
       ·rw [if_neg n1]
        by_cases n2 : rdN ts i ≥ (TB.length : Int)
        ·rw [if_pos n2]
        ·rw [if_neg n2]
         by_cases ci : 0 < i
         ·rw [if_pos (by omega), w64 (x := (i : Int) - 1) (by omega) (by omega), if_pos (by omega), if_pos (by omega), show (i : Int) - 1 = ((i - 1 : Nat) : Int) by omega, rd_rdN, if_pos]
          by_cases cl : rdN ts (i - 1) ≥ rdN ts i
          ·exact cl
          ·exact absurd ⟨by omega, by omega, fun _ => by omega⟩ hn
         ·exact absurd ⟨by omega, by omega, fun h => absurd h ci⟩ hn
      | true =>
       right
       obtain ⟨g1, g2, g3⟩ := (okAt_iff N ts i).1 hb
       refine ⟨(), fun res hres => Ev.step (fun k => ?_) hres, fun q hq => ?_, rfl⟩
       ·simp only [impl_RedrawTiles.l0]
        rw [if_pos (by omega), if_pos (by omega), if_pos (by omega), hrd, if_neg (by omega), if_neg (by omega), w64n i (by omega)]
        by_cases ci : 0 < i
        ·rw [if_pos (by omega), w64 (x := (i : Int) - 1) (by omega) (by omega), if_pos (by omega), if_pos (by omega), show (i : Int) - 1 = ((i - 1 : Nat) : Int) by omega, rd_rdN, if_neg (by have := g3 ci; omega)]
        ·rw [if_neg (by omega)]
       ·by_cases cq : q = i
        ·rw [cq]; exact hb
        ·exact hinv q (by omega)
     ·intro _ hinv
      have ho : okTs N ts = true := (okTs_iff _ _).2 hinv
      by_cases h : ls.length ≤ 6 ∧ ls.all (okL p) = true
      ·rw [if_pos h] at hfl
       rw [← hV h ho]
       have key := ev_up2 ts.length (fun k i (_ : Unit) => impl_RedrawTiles.l1 k TB (boxesT a.toNat b.toNat (ts.take i)) ts (ts.length : Int) (i : Int) a b p d a b p D) (fun _ _ => True) (fun _ _ => (a, b, p, imgD (patchPx a.toNat p.toNat d D (boxesT a.toNat b.toNat ts)) a.toNat b.toNat, true))
        (by
         intro i _ hi _
         right
         obtain ⟨g1, g2, _⟩ := (okAt_iff N ts i).1 (hinv i hi)
         obtain ⟨t, ht⟩ := Int.eq_ofNat_of_zero_le g1
         refine ⟨(), fun res hres => Ev.step (fun k => ?_) hres, trivial, rfl⟩
         have hbt : boxesT a.toNat b.toNat (ts.take (i + 1)) = boxesT a.toNat b.toNat (ts.take i) ++ [tileN a.toNat b.toNat t] := by
          unfold boxesT
          rw [List.take_succ_eq_append_getElem hi, List.map_append, List.map_cons, List.map_nil]
          congr 2
          unfold boxT
          rw [← rdN_get ts i hi, ht, Int.toNat_natCast]
         have hbl : (boxesT a.toNat b.toNat (ts.take i)).length ≤ 2000000 := by unfold boxesT; rw [List.length_map, List.length_take]; omega
         rw [hbt]
         simp only [impl_RedrawTiles.l1]
         rw [if_pos (by omega), if_pos (by omega), if_pos (by omega), rd_rdN ts i, ht, if_pos (by omega), if_pos (by omega), if_pos (by omega), hget t (by omega), w64n i (by omega)])
        (by
         intro _ _
         rw [List.take_length]
         refine Ev.step (f := fun _ => (impl_patched.f a b p d a b p D (boxesT a.toNat b.toNat ts)).bind fun t => some (t.1, t.2.1, t.2.2.1, t.2.2.2, true)) (fun k => ?_) (ev_now (hpatch h ho) (Ev.now _))
         simp only [impl_RedrawTiles.l1]
         rw [if_neg (by omega)])
        ts.length 0 () (by omega) trivial
       refine Ev.step (f := fun k => (impl_flatten.f k a b p e ls).bind fun t => if t.2.2.2.2 = true then impl_RedrawTiles.l1 k TB [] ts (ts.length : Int) 0 a b p d t.1 t.2.1 t.2.2.1 t.2.2.2.1 else some (0, 0, 0, [], false)) (fun k => ?_) (ev_bind hfl (ev_pos rfl key))
       simp only [impl_RedrawTiles.l0]
       rw [if_neg (by omega)]
      ·rw [if_neg h] at hfl
       rw [← hV0 (fun g => h g.1)]
       refine Ev.step (f := fun k => (impl_flatten.f k a b p e ls).bind fun t => if t.2.2.2.2 = true then impl_RedrawTiles.l1 k TB [] ts (ts.length : Int) 0 a b p d t.1 t.2.1 t.2.2.1 t.2.2.2.1 else some (0, 0, 0, [], false)) (fun k => ?_) (ev_bind hfl (ev_neg (by simp) (Ev.now _)))
       simp only [impl_RedrawTiles.l0]
       rw [if_neg (by omega)]
   ·rw [decide_eq_false c3]
    exact stop _ (fun h => c3 (by have := (sameV_iff _ _ _ _ _ _ _ _).1 h.1; exact this.2.2)) rfl
  ·exact ev_neg c2 (stop _ (fun h => c2 ((sameV_iff _ _ _ _ _ _ _ _).1 h.1).2.1) rfl)
 ·exact ev_neg c1 (stop _ (fun h => c1 ((sameV_iff _ _ _ _ _ _ _ _).1 h.1).1) rfl)
theorem redrawV_len (a b p : Int) (d : List Int) (a' b' p' : Int) (e : List Int) (ls : List Lay) (ts : List Int) : (redrawV a b p d a' b' p' e ls ts).2.2.2.1.length ≤ 1024 := by
 unfold redrawV
 split
 ·rename_i h
  obtain ⟨c1, c2, rfl, rfl, rfl⟩ := (sameV_iff _ _ _ _ _ _ _ _).1 h.1
  have hfv := flatD_valid ls c2 h.2.1.2
  generalize flatD a b p e ls = D at hfv
  obtain ⟨an, bn, pn, rfl, rfl, rfl, q1, q2, q3, q4, q5, q6, q7⟩ := nat_of c1
  obtain ⟨_, _, _, f1, f2, f3, _, _, _, _, _, _, q8⟩ := nat_of hfv
  have f1 := Int.ofNat.inj f1
  have f2 := Int.ofNat.inj f2
  have f3 := Int.ofNat.inj f3
  subst f1 f2 f3
  simp only [Int.toNat_natCast]
  rw [imgD_length (patchPx_len q7 q8 _)]
  exact Nat.mul_le_mul (Nat.mul_le_mul q4 q2) q6
 ·simp

/- What the laws of redrawn tiles want. -/

theorem tile_at {an bn x y : Nat} (h1 : 1 ≤ an ∧ an ≤ 16) (h2 : 1 ≤ bn ∧ bn ≤ 16) (hx : x < an) (hy : y < bn) : ∃ t, t < colsOf an * colsOf bn ∧ inBx (tileN an bn t) x y = true := by
 have hc : x / 4 < colsOf an := by unfold colsOf; omega
 have hr : y / 4 < colsOf bn := by unfold colsOf; omega
 refine ⟨y / 4 * colsOf an + x / 4, ?_, ?_⟩
 ·have h := Nat.mul_le_mul_right (colsOf an) (show y / 4 + 1 ≤ colsOf bn from hr)
  rw [Nat.add_mul, Nat.one_mul] at h
  rw [Nat.mul_comm (colsOf an) (colsOf bn)]
  omega
 ·rw [tileN_at an bn (y / 4) (x / 4) hc]
  have m1 : (x : Int) < ((x / 4 * 4 : Nat) : Int) + mn 4 ((an : Int) - ((x / 4 * 4 : Nat) : Int)) := by unfold mn; split <;> omega
  have m2 : (y : Int) < ((y / 4 * 4 : Nat) : Int) + mn 4 ((bn : Int) - ((y / 4 * 4 : Nat) : Int)) := by unfold mn; split <;> omega
  unfold inBx
  exact decide_eq_true ⟨show ((x / 4 * 4 : Nat) : Int) ≤ (x : Int) by omega, m1, show ((y / 4 * 4 : Nat) : Int) ≤ (y : Int) by omega, m2⟩
theorem patch_full {an bn pn : Nat} {d D : List Int} (hd : d.length = (bn * an) * pn) (hD : D.length = (bn * an) * pn) {l : List Bxx} (h : ∀ x y, x < an → y < bn → l.any (fun r => inBx r x y) = true ∨ nx pn d (y * an + x) = nx pn D (y * an + x)) : imgD (patchPx an pn d D l) an bn = D := by
 have hlen := patchPx_len hd hD l
 refine ext_img (imgD_length hlen) hD (fun x y hx hy => ?_)
 rw [nx_imgD hlen hx hy]
 unfold patchPx
 by_cases c : l.any (fun r => inBx r x y) = true
 ·rw [if_pos c]
 ·rw [if_neg c]
  exact (h x y hx hy).resolve_left c
theorem patch_none {an bn pn : Nat} {d D : List Int} (hd : d.length = (bn * an) * pn) (hD : D.length = (bn * an) * pn) : imgD (patchPx an pn d D []) an bn = d := by
 have hlen := patchPx_len hd hD []
 refine ext_img (imgD_length hlen) hd (fun x y hx hy => ?_)
 rw [nx_imgD hlen hx hy]
 rfl
theorem box_any {an bn : Nat} {ts : List Int} {t : Nat} {x y : Nat} (hm : (t : Int) ∈ ts) (h : inBx (tileN an bn t) x y = true) : (boxesT an bn ts).any (fun r => inBx r x y) = true := by
 refine List.any_eq_true.2 ⟨tileN an bn t, List.mem_map.2 ⟨(t : Int), hm, ?_⟩, h⟩
 unfold boxT
 rw [Int.toNat_natCast]

/- Redrawn tiles are those of the whole picture: the law FnRedrawTiles over lists of numbers alone. -/

theorem spoil_ev (b : List Int) (pos z : Int) (l : List Int) (hb : Bytes b) (h0 : 0 ≤ pos) (h1 : pos ≤ 100000000) (hl : l.length ≤ 1000) :
  ∃ (l' : List Int) (q : Int), l'.length ≤ l.length + 1 ∧ pos ≤ q ∧ q ≤ pos + 3 ∧ Ev (fun k => spec_reader_spoil.f k b pos l z) (l', q) := by
 obtain ⟨v, hv, _, _⟩ := pick_in b pos 20 (by omega) hb h0 (by omega)
 unfold spec_reader_spoil.f
 have hc := copyInts_px l (by omega)
 by_cases c0 : v = 0
 ·exact ⟨l ++ [z], pos + 1, by simp, by omega, by omega, ev_now hc (ev_bind hv (ev_pos c0 (ev_pos (by omega) (Ev.now _))))⟩
 ·by_cases c1 : v = 1
  ·by_cases c2 : (l.length : Int) > 0
   ·exact ⟨l.drop (1 : Int).toNat, pos + 1, by rw [List.length_drop]; omega, by omega, by omega, ev_now hc (ev_bind hv (ev_neg c0 (ev_pos c1 (ev_pos c2 (ev_pos (by omega) (Ev.now _))))))⟩
   ·exact ⟨l, pos + 1, by omega, by omega, by omega, ev_now hc (ev_bind hv (ev_neg c0 (ev_pos c1 (ev_neg c2 (Ev.now _)))))⟩
  ·by_cases c2 : v = 2
   ·by_cases c3 : (l.length : Int) > 0
    ·obtain ⟨i, hi, i0, i1⟩ := pick_in b (pos + 1) (l.length : Int) (by omega) hb (by omega) (by omega)
     obtain ⟨x, hx, _⟩ := one_in b (pos + 1 + 1) [(-1), z, 0, 1] (by simp) (by simp) hb (by omega) (by omega)
     exact ⟨l.set i.toNat x, pos + 1 + 1 + 1, by rw [List.length_set]; omega, by omega, by omega, ev_now hc (ev_bind hv (ev_neg c0 (ev_neg c1 (ev_pos c2 (ev_pos c3 (ev_bind hi (ev_bind hx (ev_pos i0 (ev_pos i1 (Ev.now _))))))))))⟩
    ·exact ⟨l, pos + 1, by omega, by omega, by omega, ev_now hc (ev_bind hv (ev_neg c0 (ev_neg c1 (ev_pos c2 (ev_neg c3 (Ev.now _))))))⟩
   ·exact ⟨l, pos + 1, by omega, by omega, by omega, ev_now hc (ev_bind hv (ev_neg c0 (ev_neg c1 (ev_neg c2 (Ev.now _)))))⟩
theorem drawTiles_loop (b : List Int) (hb : Bytes b) (ls : List Lay) (a1 b1 p1 : Int) (d1 : List Int) (a2 b2 p2 : Int) (d2 : List Int) (hd1 : d1.length ≤ 2000000) : ∀ (n i : Nat) (ts : List Int) (pos : Int), i + n = 4 → 0 ≤ pos → pos + n ≤ 1000010 → ts.length ≤ i →
  ∃ ts' : List Int, ts'.length ≤ 10 ∧ Ev (fun k => spec_DrawRedrawTiles.l0 k ls ts (i : Int) b pos a1 b1 p1 d1 a2 b2 p2 d2) (a2, b2, p2, d2, a1, b1, p1, d1, ls, ts')
 | 0, i, ts, pos, hi, h0, h1, hl => by
  obtain ⟨l', q, e1, _, _, e4⟩ := spoil_ev b pos 16 ts hb h0 (by omega) (by omega)
  refine ⟨l', by omega, Ev.step (f := fun k => (spec_reader_spoil.f k b pos ts 16).bind fun t => some (a2, b2, p2, d2, a1, b1, p1, d1, ls, t.1)) (fun k => ?_) (ev_bind e4 (Ev.now _))⟩
  simp only [spec_DrawRedrawTiles.l0]
  rw [if_neg (by omega)]
 | n + 1, i, ts, pos, hi, h0, h1, hl => by
  obtain ⟨v, hv, v0, v1⟩ := pick_in b pos 2 (by omega) hb h0 (by omega)
  have key : ∀ ts2 : List Int, ts2.length ≤ i + 1 → Ev (fun k => (if v = 0 then ((spec_validImage.f k a1 b1 p1 d1).bind fun t => if t = true then ((spec_tileCount.f a1 b1 p1 d1).bind fun u => if (i : Int) < u then (if ts.length < 17592186044416 then spec_DrawRedrawTiles.l0 k ls (ts ++ [(i : Int)]) ((i + 1 : Nat) : Int) b (pos + 1) a1 b1 p1 d1 a2 b2 p2 d2 else none) else spec_DrawRedrawTiles.l0 k ls ts ((i + 1 : Nat) : Int) b (pos + 1) a1 b1 p1 d1 a2 b2 p2 d2) else spec_DrawRedrawTiles.l0 k ls ts ((i + 1 : Nat) : Int) b (pos + 1) a1 b1 p1 d1 a2 b2 p2 d2) else spec_DrawRedrawTiles.l0 k ls ts ((i + 1 : Nat) : Int) b (pos + 1) a1 b1 p1 d1 a2 b2 p2 d2)) (a2, b2, p2, d2, a1, b1, p1, d1, ls, ts2) → Ev (fun k => spec_DrawRedrawTiles.l0 k ls ts (i : Int) b pos a1 b1 p1 d1 a2 b2 p2 d2) (a2, b2, p2, d2, a1, b1, p1, d1, ls, ts2) := fun ts2 _ h => by
   refine Ev.step (f := fun k => (spec_reader_pick.f k b pos 2).bind fun w => (if w.1 = 0 then ((spec_validImage.f k a1 b1 p1 d1).bind fun t => if t = true then ((spec_tileCount.f a1 b1 p1 d1).bind fun u => if (i : Int) < u then (if ts.length < 17592186044416 then spec_DrawRedrawTiles.l0 k ls (ts ++ [(i : Int)]) ((i + 1 : Nat) : Int) b w.2 a1 b1 p1 d1 a2 b2 p2 d2 else none) else spec_DrawRedrawTiles.l0 k ls ts ((i + 1 : Nat) : Int) b w.2 a1 b1 p1 d1 a2 b2 p2 d2) else spec_DrawRedrawTiles.l0 k ls ts ((i + 1 : Nat) : Int) b w.2 a1 b1 p1 d1 a2 b2 p2 d2) else spec_DrawRedrawTiles.l0 k ls ts ((i + 1 : Nat) : Int) b w.2 a1 b1 p1 d1 a2 b2 p2 d2)) (fun k => ?_) (ev_bind hv h)
   simp only [spec_DrawRedrawTiles.l0]
   rw [if_pos (by omega), w64n i (by omega)]
  obtain ⟨ts', r1, r2⟩ := drawTiles_loop b hb ls a1 b1 p1 d1 a2 b2 p2 d2 hd1 n (i + 1) ts (pos + 1) (by omega) (by omega) (by omega) (by omega)
  obtain ⟨ts3, r3, r4⟩ := drawTiles_loop b hb ls a1 b1 p1 d1 a2 b2 p2 d2 hd1 n (i + 1) (ts ++ [(i : Int)]) (pos + 1) (by omega) (by omega) (by omega) (by simp; omega)
  by_cases c : v = 0
  ·by_cases c1 : validI a1 b1 p1 d1 = true
   ·have hval := spec_validImage_ev a1 b1 p1 d1 (by omega)
    obtain ⟨an, bn, pn, ea, eb, ep, q1, q2, q3, q4, _, _, _⟩ := nat_of c1
    have htc : spec_tileCount.f a1 b1 p1 d1 = some ((colsOf an * colsOf bn : Nat) : Int) := by rw [ea, eb]; exact spec_tileCount_eq an bn p1 d1 q1 q2 q3 q4
    by_cases c2 : (i : Int) < ((colsOf an * colsOf bn : Nat) : Int)
    ·exact ⟨ts3, r3, Ev.step (f := fun k => (spec_reader_pick.f k b pos 2).bind fun w => (if w.1 = 0 then ((spec_validImage.f k a1 b1 p1 d1).bind fun t => if t = true then ((spec_tileCount.f a1 b1 p1 d1).bind fun u => if (i : Int) < u then (if ts.length < 17592186044416 then spec_DrawRedrawTiles.l0 k ls (ts ++ [(i : Int)]) ((i + 1 : Nat) : Int) b w.2 a1 b1 p1 d1 a2 b2 p2 d2 else none) else spec_DrawRedrawTiles.l0 k ls ts ((i + 1 : Nat) : Int) b w.2 a1 b1 p1 d1 a2 b2 p2 d2) else spec_DrawRedrawTiles.l0 k ls ts ((i + 1 : Nat) : Int) b w.2 a1 b1 p1 d1 a2 b2 p2 d2) else spec_DrawRedrawTiles.l0 k ls ts ((i + 1 : Nat) : Int) b w.2 a1 b1 p1 d1 a2 b2 p2 d2)) (fun k => by simp only [spec_DrawRedrawTiles.l0]; rw [if_pos (by omega), w64n i (by omega)]) (ev_bind hv (ev_pos c (ev_bind hval (ev_pos c1 (ev_now htc (ev_pos c2 (ev_pos (by omega) r4)))))))⟩
    ·exact ⟨ts', r1, Ev.step (f := fun k => (spec_reader_pick.f k b pos 2).bind fun w => (if w.1 = 0 then ((spec_validImage.f k a1 b1 p1 d1).bind fun t => if t = true then ((spec_tileCount.f a1 b1 p1 d1).bind fun u => if (i : Int) < u then (if ts.length < 17592186044416 then spec_DrawRedrawTiles.l0 k ls (ts ++ [(i : Int)]) ((i + 1 : Nat) : Int) b w.2 a1 b1 p1 d1 a2 b2 p2 d2 else none) else spec_DrawRedrawTiles.l0 k ls ts ((i + 1 : Nat) : Int) b w.2 a1 b1 p1 d1 a2 b2 p2 d2) else spec_DrawRedrawTiles.l0 k ls ts ((i + 1 : Nat) : Int) b w.2 a1 b1 p1 d1 a2 b2 p2 d2) else spec_DrawRedrawTiles.l0 k ls ts ((i + 1 : Nat) : Int) b w.2 a1 b1 p1 d1 a2 b2 p2 d2)) (fun k => by simp only [spec_DrawRedrawTiles.l0]; rw [if_pos (by omega), w64n i (by omega)]) (ev_bind hv (ev_pos c (ev_bind hval (ev_pos c1 (ev_now htc (ev_neg c2 r2))))))⟩
   ·have hval := spec_validImage_ev a1 b1 p1 d1 (by omega)
    exact ⟨ts', r1, Ev.step (f := fun k => (spec_reader_pick.f k b pos 2).bind fun w => (if w.1 = 0 then ((spec_validImage.f k a1 b1 p1 d1).bind fun t => if t = true then ((spec_tileCount.f a1 b1 p1 d1).bind fun u => if (i : Int) < u then (if ts.length < 17592186044416 then spec_DrawRedrawTiles.l0 k ls (ts ++ [(i : Int)]) ((i + 1 : Nat) : Int) b w.2 a1 b1 p1 d1 a2 b2 p2 d2 else none) else spec_DrawRedrawTiles.l0 k ls ts ((i + 1 : Nat) : Int) b w.2 a1 b1 p1 d1 a2 b2 p2 d2) else spec_DrawRedrawTiles.l0 k ls ts ((i + 1 : Nat) : Int) b w.2 a1 b1 p1 d1 a2 b2 p2 d2) else spec_DrawRedrawTiles.l0 k ls ts ((i + 1 : Nat) : Int) b w.2 a1 b1 p1 d1 a2 b2 p2 d2)) (fun k => by simp only [spec_DrawRedrawTiles.l0]; rw [if_pos (by omega), w64n i (by omega)]) (ev_bind hv (ev_pos c (ev_bind hval (ev_neg c1 r2))))⟩
  ·exact ⟨ts', r1, Ev.step (f := fun k => (spec_reader_pick.f k b pos 2).bind fun w => (if w.1 = 0 then ((spec_validImage.f k a1 b1 p1 d1).bind fun t => if t = true then ((spec_tileCount.f a1 b1 p1 d1).bind fun u => if (i : Int) < u then (if ts.length < 17592186044416 then spec_DrawRedrawTiles.l0 k ls (ts ++ [(i : Int)]) ((i + 1 : Nat) : Int) b w.2 a1 b1 p1 d1 a2 b2 p2 d2 else none) else spec_DrawRedrawTiles.l0 k ls ts ((i + 1 : Nat) : Int) b w.2 a1 b1 p1 d1 a2 b2 p2 d2) else spec_DrawRedrawTiles.l0 k ls ts ((i + 1 : Nat) : Int) b w.2 a1 b1 p1 d1 a2 b2 p2 d2) else spec_DrawRedrawTiles.l0 k ls ts ((i + 1 : Nat) : Int) b w.2 a1 b1 p1 d1 a2 b2 p2 d2)) (fun k => by simp only [spec_DrawRedrawTiles.l0]; rw [if_pos (by omega), w64n i (by omega)]) (ev_bind hv (ev_neg c r2))⟩
theorem drawRedraw (code : List Int) (hw : ∀ x ∈ code, (Lit.int .u8 x).wf = true) : ∃ (a b p : Int) (d : List Int) (a' b' p' : Int) (e : List Int) (ls : List Lay) (ts : List Int), d.length ≤ 1024 ∧ e.length ≤ 1024 ∧ ls.length ≤ 7 ∧ (∀ s ∈ ls, s.f0.f3.length ≤ 1024) ∧ ts.length ≤ 10 ∧ Ev (fun k => spec_DrawRedrawTiles.f k code) (a, b, p, d, a', b', p', e, ls, ts) := by
 obtain ⟨b, hb, hB⟩ := newReader_at code (code_bytes code hw)
 obtain ⟨w, h, p, d, ls, hd, hll, hpl, hD⟩ := drawLayers code hw
 obtain ⟨v, hv, v0, v1⟩ := pick_in b 0 12 (by omega) hB (by omega) (by omega)
 have hc := copyInts_px d (by omega)
 by_cases c : v = 0
 ·obtain ⟨a2, b2, p2, d2, q, hd2, q1, q2, he⟩ := anyImage_ev b (0 + 1) hB (by omega) (by omega)
  obtain ⟨ts, r1, r2⟩ := drawTiles_loop b hB ls w h p d a2 b2 p2 d2 (by omega) 4 0 [] q (by omega) (by omega) (by omega) (by simp)
  refine ⟨a2, b2, p2, d2, w, h, p, d, ls, ts, hd2, hd, hll, hpl, r1, ?_⟩
  unfold spec_DrawRedrawTiles.f
  exact ev_now hb (ev_bind hD (ev_now hc (ev_bind hv (ev_pos c (ev_bind he (Ev.step (fun k => by simp only [spec_DrawRedrawTiles.j0]; rfl) r2))))))
 ·obtain ⟨ts, r1, r2⟩ := drawTiles_loop b hB ls w h p d w h p d (by omega) 4 0 [] (0 + 1) (by omega) (by omega) (by omega) (by simp)
  refine ⟨w, h, p, d, w, h, p, d, ls, ts, hd, hd, hll, hpl, r1, ?_⟩
  unfold spec_DrawRedrawTiles.f
  exact ev_now hb (ev_bind hD (ev_now hc (ev_bind hv (ev_neg c (Ev.step (fun k => by simp only [spec_DrawRedrawTiles.j0]; rfl) r2)))))
def allT (n : Nat) : List Int := (List.range n).map fun (t : Nat) => (t : Int)
theorem allT_ok (n : Nat) : okTs n (allT n) = true := by
 refine (okTs_iff _ _).2 fun i hi => (okAt_iff _ _ _).2 ?_
 have hl : (allT n).length = n := by simp [allT]
 have e : ∀ q, q < n → rdN (allT n) q = (q : Int) := fun q hq => by
  rw [rdN_get _ _ (by rw [hl]; exact hq)]
  simp [allT]
 rw [e i (by omega)]
 refine ⟨by omega, by omega, fun h => ?_⟩
 rw [e (i - 1) (by omega)]
 omega
theorem law_loop (ls : List Lay) (a b p : Int) (d : List Int) (a' b' p' : Int) (e : List Int) (n : Nat) (hn : (tilesOf a' b' p' e).length = n) (hn' : n ≤ 1000) (end_ : Ev (fun k => laws_FnRedrawTiles.l0 k ls (allT n) (n : Int) a b p d a' b' p' e) true) : ∀ (m i : Nat), i + m = n →
  Ev (fun k => laws_FnRedrawTiles.l0 k ls (allT i) (i : Int) a b p d a' b' p' e) true
 | 0, i, hi => by
  rw [show i = n by omega]
  exact end_
 | m + 1, i, hi => by
  have ih := law_loop ls a b p d a' b' p' e n hn hn' end_ m (i + 1) (by omega)
  have hT := impl_TileBoxes_ev a' b' p' e
  have hal : (allT i).length = i := by simp [allT]
  have he : allT (i + 1) = allT i ++ [(i : Int)] := by simp [allT, List.range_succ]
  rw [he] at ih
  have ih2 : Ev (fun k => if (i : Int) < ((tilesOf a' b' p' e).length : Int) then (if (allT i).length < 17592186044416 then laws_FnRedrawTiles.l0 k ls (allT i ++ [(i : Int)]) (wrap64 ((i : Int) + 1)) a b p d a' b' p' e else none) else ((impl_RedrawTiles.f k a b p d a' b' p' e ls (allT i)).bind fun x => ((impl_FlattenLayers.f k a' b' p' e ls).bind fun y => ((impl_RedrawTiles.f k a b p d a' b' p' e ls []).bind fun z => if x.2.2.2.2 = true then (if y.2.2.2.2 = true then ((laws_equalImage.f k x.1 x.2.1 x.2.2.1 x.2.2.2.1 y.1 y.2.1 y.2.2.1 y.2.2.2.1).bind fun t => if t = true then (if z.2.2.2.2 = true then ((laws_equalImage.f k z.1 z.2.1 z.2.2.1 z.2.2.2.1 a b p d).bind fun u => some u) else some false) else some false) else some false) else some false)))) true := ev_pos (by omega) (ev_pos (by omega) (by rw [w64n i (by omega)]; exact ih))
  exact Ev.step (fun k => by simp only [laws_FnRedrawTiles.l0]; rfl) (ev_bind hT ih2)
theorem FnRedrawTiles : laws_FnRedrawTiles.Pure := by
 intro code _ _ hw
 apply Ev.rounds
 unfold laws_FnRedrawTiles.f
 by_cases c : (code.length : Int) > 1048576
 ·exact ev_pos c (Ev.now true)
 refine ev_neg c ?_
 obtain ⟨a, b, p, d, a', b', p', e, ls, ts, hdl, hel, hll, hpl, htl, hd⟩ := drawRedraw code hw
 have hI := impl_RedrawTiles_ev a b p d a' b' p' e ls ts (by omega)
 have hS := spec_RedrawTiles_ev a b p d a' b' p' e ls ts (by omega) (by omega) (by omega) (fun s hs => by have := hpl s hs; omega) (by omega)
 have hVl := redrawV_len a b p d a' b' p' e ls ts
 by_cases hg : sameV a b p d a' b' p' e = true ∧ (ls.length ≤ 6 ∧ ls.all (okL p') = true) ∧ okTs (colsOf a.toNat * colsOf b.toNat) ts = true
 ·obtain ⟨D1, he⟩ : ∃ D1, redrawV a b p d a' b' p' e ls ts = (a, b, p, D1, true) := ⟨_, by unfold redrawV; rw [if_pos hg]⟩
  rw [he] at hI hS hVl
  have hVl : D1.length ≤ 1024 := hVl
  have heq := ev_val (equalImage_ev a b p D1 a b p D1 (by omega)) (decide_eq_true ⟨rfl, rfl, rfl, rfl⟩)
  refine ev_bind hd (ev_bind hI (ev_bind hS (ev_bind heq (ev_pos rfl (ev_neg (by simp) ?_)))))
  obtain ⟨hs, hls, hts⟩ := hg
  obtain ⟨c1, c2, rfl, rfl, rfl⟩ := (sameV_iff _ _ _ _ _ _ _ _).1 hs
  have hF := impl_FlattenLayers_ev a b p e ls
  have hfV : flatV a b p e ls = (a, b, p, flatD a b p e ls, true) := by unfold flatV; rw [if_pos ⟨c2, hls⟩]
  rw [hfV] at hF
  have hfv := flatD_valid ls c2 hls.2
  have i1 := impl_RedrawTiles_ev a b p d a b p e ls (allT (colsOf a.toNat * colsOf b.toNat))
  have i2 := impl_RedrawTiles_ev a b p d a b p e ls [] (by simp)
  have hTl : (tilesOf a b p e).length = colsOf a.toNat * colsOf b.toNat := by unfold tilesOf; rw [if_pos c2]; exact tilesN_length _ _ _
  have hcount : colsOf a.toNat * colsOf b.toNat ≤ 16 := by
   obtain ⟨an, bn, pn, rfl, rfl, rfl, q1, q2, q3, q4, q5, q6, q7⟩ := nat_of c1
   exact (tiles_count an bn q1 q2 q3 q4).2
  have e1 : redrawV a b p d a b p e ls (allT (colsOf a.toNat * colsOf b.toNat)) = (a, b, p, flatD a b p e ls, true) := by
   unfold redrawV
   rw [if_pos ⟨hs, hls, allT_ok _⟩]
   generalize flatD a b p e ls = D at hfv
   obtain ⟨an, bn, pn, rfl, rfl, rfl, q1, q2, q3, q4, q5, q6, q7⟩ := nat_of c1
   obtain ⟨_, _, _, f1, f2, f3, _, _, _, _, _, _, q8⟩ := nat_of hfv
   have f1 := Int.ofNat.inj f1
   have f2 := Int.ofNat.inj f2
   have f3 := Int.ofNat.inj f3
   subst f1 f2 f3
   simp only [Int.toNat_natCast]
   rw [patch_full q7 q8 (fun x y hx hy => by
    obtain ⟨t, ht, hin⟩ := tile_at ⟨q1, q2⟩ ⟨q3, q4⟩ hx hy
    exact .inl (box_any (List.mem_map.2 ⟨t, List.mem_range.2 ht, rfl⟩) hin))]
  have e2 : redrawV a b p d a b p e ls [] = (a, b, p, d, true) := by
   unfold redrawV
   rw [if_pos ⟨hs, hls, by simp [okTs]⟩]
   generalize flatD a b p e ls = D at hfv
   obtain ⟨an, bn, pn, rfl, rfl, rfl, q1, q2, q3, q4, q5, q6, q7⟩ := nat_of c1
   obtain ⟨_, _, _, f1, f2, f3, _, _, _, _, _, _, q8⟩ := nat_of hfv
   have f1 := Int.ofNat.inj f1
   have f2 := Int.ofNat.inj f2
   have f3 := Int.ofNat.inj f3
   subst f1 f2 f3
   simp only [Int.toNat_natCast]
   rw [show boxesT an bn [] = [] from rfl, patch_none q7 q8]
  have hal : (allT (colsOf a.toNat * colsOf b.toNat)).length ≤ 1000000 := by simp [allT]; omega
  have i1 := i1 (Nat.le_trans hal (by decide))
  rw [e1] at i1
  rw [e2] at i2
  have hDl := valid_le hfv
  generalize flatD a b p e ls = D at i1 hF hDl
  have hq1 := ev_val (equalImage_ev a b p D a b p D (by omega)) (decide_eq_true ⟨rfl, rfl, rfl, rfl⟩)
  have hq2 := ev_val (equalImage_ev a b p d a b p d (by omega)) (decide_eq_true ⟨rfl, rfl, rfl, rfl⟩)
  generalize hN : colsOf a.toNat * colsOf b.toNat = N at i1 hTl hcount
  have hT := impl_TileBoxes_ev a b p e
  have hlast : Ev (fun k => if (N : Int) < ((tilesOf a b p e).length : Int) then (if (allT N).length < 17592186044416 then laws_FnRedrawTiles.l0 k ls (allT N ++ [(N : Int)]) (wrap64 ((N : Int) + 1)) a b p d a b p e else none) else ((impl_RedrawTiles.f k a b p d a b p e ls (allT N)).bind fun x => ((impl_FlattenLayers.f k a b p e ls).bind fun y => ((impl_RedrawTiles.f k a b p d a b p e ls []).bind fun z => if x.2.2.2.2 = true then (if y.2.2.2.2 = true then ((laws_equalImage.f k x.1 x.2.1 x.2.2.1 x.2.2.2.1 y.1 y.2.1 y.2.2.1 y.2.2.2.1).bind fun t => if t = true then (if z.2.2.2.2 = true then ((laws_equalImage.f k z.1 z.2.1 z.2.2.1 z.2.2.2.1 a b p d).bind fun u => some u) else some false) else some false) else some false) else some false)))) true :=
   ev_neg (by omega) (ev_bind i1 (ev_bind hF (ev_bind i2 (ev_pos rfl (ev_pos rfl (ev_bind hq1 (ev_pos rfl (ev_pos rfl (ev_bind hq2 (Ev.now _))))))))))
  have hloop := law_loop ls a b p d a b p e N hTl (by omega) (Ev.step (fun k => by simp only [laws_FnRedrawTiles.l0]; rfl) (ev_bind hT hlast)) N 0 (by omega)
  refine Ev.step (f := fun k => laws_FnRedrawTiles.l0 k ls [] 0 a b p d a b p e) (fun k => ?_) hloop
  simp only [laws_FnRedrawTiles.j0, Bool.not_true]
  rw [if_neg (by simp)]
 ·have he : redrawV a b p d a' b' p' e ls ts = (0, 0, 0, [], false) := by unfold redrawV; rw [if_neg hg]
  rw [he] at hI hS
  have heq := ev_val (equalImage_ev 0 0 0 [] 0 0 0 [] (by simp)) (decide_eq_true ⟨rfl, rfl, rfl, rfl⟩)
  refine ev_bind hd (ev_bind hI (ev_bind hS (ev_bind heq (ev_pos rfl (ev_neg (by simp) ?_)))))
  refine Ev.step (f := fun k => (laws_equalImage.f k 0 0 0 [] 0 0 0 []).bind fun t => if t = true then some (false == false) else some false) (fun k => ?_) (ev_bind heq (ev_pos rfl (ev_const rfl)))
  simp only [laws_FnRedrawTiles.j0, Bool.not_false]
  rw [if_pos trivial]
end Go.Proofs.Ytnofkbbcbpjhfaa.Pure

/- The head of the translation reads as a plain cut. -/
namespace Go.Proofs.Ytnofkbbcbpjhfaa.Head
set_option maxRecDepth 100000
theorem wordsSigns_word (w r : List Char) (h : w.all (fun c => !(c == Char.ofNat 32)) = true) : wordsSigns (w ++ Char.ofNat 32 :: r) = w :: wordsSigns r := by
  induction w with
  | nil => rfl
  | cons c w ih =>
    simp only [List.all_cons, Bool.and_eq_true, Bool.not_eq_true', beq_eq_false_iff_ne, ne_eq] at h
    have h1 := ih (by simpa using h.2)
    rw [List.cons_append, wordsSigns.eq_3 c _ h.1, h1]
def w1 : List Char := [104, 97, 114, 110, 101, 115, 115].map Char.ofNat
def w2 : List Char := [98, 98, 56, 56, 48, 50, 51, 48, 99, 56, 98, 97, 54, 51, 51, 51, 48, 101, 54, 53, 56, 97, 98, 51, 97, 51, 99, 100, 54, 102, 98, 98, 55, 101, 51, 50, 99, 48, 56, 52, 55, 54, 49, 49, 100, 50, 51, 56, 55, 100, 54, 48, 49, 99, 100, 97, 51, 102, 50, 98, 48, 57, 53, 101].map Char.ofNat
def w3 : List Char := [99, 117, 116].map Char.ofNat
def w4 : List Char := [97, 116, 32, 108, 111, 111, 112, 46, 101, 120, 97, 109, 112, 108, 101, 47, 112, 105, 120, 101, 108, 119, 111, 114, 107, 115, 47, 108, 97, 119, 115, 46, 70, 110, 69, 120, 97, 99, 116, 71, 97, 112, 79, 102, 32, 108, 111, 111, 112, 46, 101, 120, 97, 109, 112, 108, 101, 47, 112, 105, 120, 101, 108, 119, 111, 114, 107, 115, 47, 108, 97, 119, 115, 46, 70, 110, 71, 97, 112, 79, 102, 32, 108, 111, 111, 112, 46, 101, 120, 97, 109, 112, 108, 101, 47, 112, 105, 120, 101, 108, 119, 111, 114, 107, 115, 47, 108, 97, 119, 115, 46, 70, 110, 69, 120, 97, 99, 116, 84, 105, 108, 101, 66, 111, 120, 101, 115, 32, 108, 111, 111, 112, 46, 101, 120, 97, 109, 112, 108, 101, 47, 112, 105, 120, 101, 108, 119, 111, 114, 107, 115, 47, 108, 97, 119, 115, 46, 70, 110, 84, 105, 108, 101, 66, 111, 120, 101, 115, 32, 108, 111, 111, 112, 46, 101, 120, 97, 109, 112, 108, 101, 47, 112, 105, 120, 101, 108, 119, 111, 114, 107, 115, 47, 108, 97, 119, 115, 46, 70, 110, 69, 120, 97, 99, 116, 68, 105, 114, 116, 121, 84, 105, 108, 101, 115, 32, 108, 111, 111, 112, 46, 101, 120, 97, 109, 112, 108, 101, 47, 112, 105, 120, 101, 108, 119, 111, 114, 107, 115, 47, 108, 97, 119, 115, 46, 70, 110, 68, 105, 114, 116, 121, 84, 105, 108, 101, 115, 32, 108, 111, 111, 112, 46, 101, 120, 97, 109, 112, 108, 101, 47, 112, 105, 120, 101, 108, 119, 111, 114, 107, 115, 47, 108, 97, 119, 115, 46, 70, 110, 69, 120, 97, 99, 116, 77, 101, 114, 103, 101, 80, 108, 97, 110, 101, 115, 32, 108, 111, 111, 112, 46, 101, 120, 97, 109, 112, 108, 101, 47, 112, 105, 120, 101, 108, 119, 111, 114, 107, 115, 47, 108, 97, 119, 115, 46, 70, 110, 69, 120, 97, 99, 116, 67, 111, 118, 101, 114, 73, 109, 97, 103, 101, 32, 108, 111, 111, 112, 46, 101, 120, 97, 109, 112, 108, 101, 47, 112, 105, 120, 101, 108, 119, 111, 114, 107, 115, 47, 108, 97, 119, 115, 46, 70, 110, 67, 111, 118, 101, 114, 73, 109, 97, 103, 101, 32, 108, 111, 111, 112, 46, 101, 120, 97, 109, 112, 108, 101, 47, 112, 105, 120, 101, 108, 119, 111, 114, 107, 115, 47, 108, 97, 119, 115, 46, 70, 110, 69, 120, 97, 99, 116, 70, 108, 97, 116, 116, 101, 110, 76, 97, 121, 101, 114, 115, 32, 108, 111, 111, 112, 46, 101, 120, 97, 109, 112, 108, 101, 47, 112, 105, 120, 101, 108, 119, 111, 114, 107, 115, 47, 108, 97, 119, 115, 46, 70, 110, 70, 108, 97, 116, 116, 101, 110, 76, 97, 121, 101, 114, 115, 32, 108, 111, 111, 112, 46, 101, 120, 97, 109, 112, 108, 101, 47, 112, 105, 120, 101, 108, 119, 111, 114, 107, 115, 47, 108, 97, 119, 115, 46, 70, 110, 70, 108, 97, 116, 116, 101, 110, 76, 97, 121, 101, 114, 115, 72, 105, 100, 100, 101, 110, 32, 108, 111, 111, 112, 46, 101, 120, 97, 109, 112, 108, 101, 47, 112, 105, 120, 101, 108, 119, 111, 114, 107, 115, 47, 108, 97, 119, 115, 46, 70, 110, 69, 120, 97, 99, 116, 80, 97, 116, 99, 104, 73, 109, 97, 103, 101, 32, 108, 111, 111, 112, 46, 101, 120, 97, 109, 112, 108, 101, 47, 112, 105, 120, 101, 108, 119, 111, 114, 107, 115, 47, 108, 97, 119, 115, 46, 70, 110, 80, 97, 116, 99, 104, 73, 109, 97, 103, 101, 84, 119, 105, 99, 101, 32, 108, 111, 111, 112, 46, 101, 120, 97, 109, 112, 108, 101, 47, 112, 105, 120, 101, 108, 119, 111, 114, 107, 115, 47, 108, 97, 119, 115, 46, 70, 110, 69, 120, 97, 99, 116, 82, 101, 100, 114, 97, 119, 84, 105, 108, 101, 115, 32, 108, 111, 111, 112, 46, 101, 120, 97, 109, 112, 108, 101, 47, 112, 105, 120, 101, 108, 119, 111, 114, 107, 115, 47, 108, 97, 119, 115, 46, 70, 110, 82, 101, 100, 114, 97, 119, 68, 105, 114, 116, 121, 32, 108, 111, 111, 112, 46, 101, 120, 97, 109, 112, 108, 101, 47, 112, 105, 120, 101, 108, 119, 111, 114, 107, 115, 47, 108, 97, 119, 115, 46, 70, 110, 82, 101, 100, 114, 97, 119, 84, 105, 108, 101, 115].map Char.ofNat
theorem signs0 : Try.prog.initOrder = String.ofList (w1 ++ Char.ofNat 32 :: (w2 ++ Char.ofNat 32 :: (w3 ++ Char.ofNat 32 :: w4))) := by kernel_rfl
theorem behind : behindMainWord (wordsSigns Try.prog.initOrder.toList) = w3 :: wordsSigns w4 := by
  rw [signs0, String.toList_ofList, wordsSigns_word w1 _ (by kernel_rfl), wordsSigns_word w2 _ (by kernel_rfl), wordsSigns_word w3 _ (by kernel_rfl)]
  unfold behindMainWord
  dsimp only
  rw [if_pos (by kernel_rfl)]
theorem strip_cut (R : List (List Char)) : stripLifts liftWords (w3 :: R) = ([], w3 :: R) := by kernel_rfl
theorem mayEnter_of (P : Program) (R : List (List Char)) (h : behindMainWord (wordsSigns P.initOrder.toList) = w3 :: R) (h1 : P.laysLater = false) (h2 : P.bearsReflect = false) (h3 : P.doorFits [] = true) : P.mayEnter = true := by
  unfold Program.mayEnter
  rw [h]
  dsimp only
  rw [strip_cut, h1, h2, h3]
  kernel_rfl
theorem liftsFinal_of (P : Program) (R : List (List Char)) (h : behindMainWord (wordsSigns P.initOrder.toList) = w3 :: R) : P.liftsFinal = false := by
  unfold Program.liftsFinal Program.headLifts
  rw [h]
  dsimp only
  rw [strip_cut]
  kernel_rfl
theorem make_of (P : Program) (R : List (List Char)) (h : behindMainWord (wordsSigns P.initOrder.toList) = w3 :: R) : P.make = some .cut := by
  unfold Program.make
  rw [h]
  kernel_rfl
theorem mayEnter : Try.prog.mayEnter = true := mayEnter_of _ _ behind (by kernel_rfl) (by kernel_rfl) (by kernel_rfl)
theorem liftsFinal : Try.prog.liftsFinal = false := liftsFinal_of _ _ behind
theorem make : Try.prog.make = some .cut := make_of _ _ behind
end Go.Proofs.Ytnofkbbcbpjhfaa.Head

-- PRINTED by print.py: the row of the law laws_FnRedrawTiles, out of its Pure (the session's) and the printed walk. Not trusted: Lean checks it.
namespace Go.Proofs.Ytnofkbbcbpjhfaa.fnRedrawTiles
open Go.ChangeShapes Go.WideShapes Go.ChangeAt Go.RowKit
open Go.ChangeMaps (open_string shut_string)
set_option linter.unusedVariables false
theorem own : ownKnob Try.prog.godebug = none := by kernel_rfl
theorem laidOut : laidOutB Try.prog = true := by kernel_rfl
def IsRow (k : IntKind) (w : World) (a : Option Addr) (len cap : Nat) (zs : List Int) : Prop :=
  (a = none ∧ len = 0 ∧ cap = 0 ∧ zs = []) ∨
  ∃ x, a = some x ∧ len ≤ cap ∧ cap ≤ maxLen ∧ zs.length = cap ∧ (∀ i, i < zs.length → w.cell? (x.add i) = some (.int k (zs.getD i 0))) ∧ ∀ n ∈ zs, (Lit.int k n).wf = true
set_option maxRecDepth 100000 in
theorem lifted (os : Os) (started : os.Started) (H : Type) (enc : TypeId × Value → H) :
    ReturnsInHanded {} Try.checked os 19 .any (Rows.fnRedrawTilesSpec.pre6 enc Try.prog Try.f19 Rows.fnRedrawTilesRow.domain false) (Rows.fnRedrawTilesSpec.post enc Try.prog Try.f19 false true false false) := by
  refine returnsInHanded_of_change_sized (C := Try.checked) own started (by kernel_rfl) Try.func19
    (ChangeSpec.witness6 (enc := enc) (C := Try.checked) false ⟨#[], #[.slice none 0 0], []⟩ 8 (by kernel_rfl) (by kernel_rfl) (by kernel_rfl) (by kernel_rfl)) ?_
  intro W base args ds gs before hval0 hW hcnd hsz0 _
  have hsz : (DataW.weightsEach Try.prog (Try.f19.params.toList ++ Rows.fnRedrawTilesSpec.plain.varTypes Try.prog) (ds ++ gs)).all (· ≤ reachBytes) = true := hsz0
  have hval : ∀ (j : Nat) t v, Try.f19.params[j]? = some t → args[j]? = some v → Value.okWide Try.prog W .any base t v := hval0
  have hW' := hW
  obtain ⟨p, q, hA0, hV, rfl, hfz, hnd⟩ := hW
  have hA : DataW.TrodAll enc Try.prog W 0 (fun _ => true) true Try.f19.params.toList args.toList ds p := hA0
  rw [Try.params19] at hA hval hsz
  obtain ⟨v0, vs0, d0, ds0, p0, q0, hargs, rfl, rfl, h0, r0⟩ := trodAll_cons hA
  obtain ⟨rfl, rfl, rfl⟩ := trodAll_nil r0
  obtain rfl : args = #[v0] := by cases args; simp_all
  obtain ⟨rfl, rfl⟩ := trodVars_none hV
  obtain ⟨a0, len0, cap0, rfl⟩ := okWide_slice Try.underlying31 (hval 0 31 v0 rfl rfl)
  have k0 := h0
  have lt0 : ∀ x ∈ p0, x.block < W.heap.size := by obtain ⟨m, hm⟩ := k0; exact DataW.trod_lt m _ _ _ hm
  obtain ⟨z0, w0⟩ : ∃ zs, IsRow .u8 W a0 len0 cap0 zs := by
    obtain ⟨fuel, hf⟩ := h0
    rcases open_ints Try.underlying31 Try.underlying5 (by kernel_rfl) hf with ⟨hcs, _⟩ | ⟨x, l, c, zs, hcs, _, hl, hm, hz, _, hcell, hwz⟩
    · simp [Value.cells] at hcs
      obtain ⟨rfl, rfl, rfl⟩ := hcs
      exact ⟨[], .inl ⟨rfl, rfl, rfl, rfl⟩⟩
    · simp [Value.cells] at hcs
      obtain ⟨rfl, rfl, rfl⟩ := hcs
      exact ⟨zs, .inr ⟨_, rfl, hl, hm, by simpa using hz, hcell, hwz⟩⟩
  have y0 : len0 * 1 ≤ 140737488351232 := Go.Proofs.YtnofkbbcbpjhfaaW.PrintWords.sized_ints hsz (j := 0) (t := 31) rfl rfl Try.underlying31 Try.underlying5 (by kernel_rfl) (by kernel_rfl) h0
  clear hA0 hval0 hsz0 hsz
  refine (Q.laws_FnRedrawTiles.walk Pure.FnRedrawTiles a0 len0 cap0 z0 W w0 y0).mono fun e W' ⟨he, bel⟩ => ?_
  subst he
  exact ⟨_, rfl, _, _, _, [], _, [], hW', trodAll_mk1 (shut_bool Try.underlying4 _), (trodAll_cons_mk (Below.trod laidOut (by kernel_rfl) (of_decide_eq_true (by kernel_rfl)) k0 bel lt0) trodAll_mk0), rfl, bel.frame _, fun h => by cases h⟩
set_option maxHeartbeats 4000000 in
theorem closed : joinedFacts Try.prog 19 Try.f19 Rows.fnRedrawTilesSpec Rows.fnRedrawTilesRow = true := by
  unfold joinedFacts
  rw [Head.mayEnter, Head.liftsFinal, Head.make]
  simp only [Bool.and_eq_true]
  repeat' apply And.intro
  all_goals first | exact True.intro | (as_aux_lemma => kernel_rfl)
theorem over : Rows.fnRedrawTilesRow.holds Try.pinned (OpenSpec.ofChange Rows.fnRedrawTilesSpec) :=
  OpenClaim.holds_of_wide 19 Try.f19 rfl rfl rfl rfl rfl rfl rfl ⟨rfl, rfl, rfl, rfl, rfl⟩ rfl rfl rfl rfl rfl (by kernel_rfl) Try.func19 closed
    (of_decide_eq_true (by kernel_rfl)) (by unfold Func.isWrapper; first | (rw [if_pos (by decide +kernel)]; kernel_rfl) | (rw [if_neg (by decide +kernel)]; exact ⟨rfl, rfl⟩))
    (fun os started H enc _ => lifted os started H enc)
theorem proved : Rows.FnRedrawTilesSaid := over
#print axioms proved
end Go.Proofs.Ytnofkbbcbpjhfaa.fnRedrawTiles
namespace Go.Proofs.Ytnofkbbcbpjhfaa
/-- The row, under a short name, for the claim. -/
theorem fnRedrawTiles_holds : Rows.FnRedrawTilesSaid := fnRedrawTiles.proved
end Go.Proofs.Ytnofkbbcbpjhfaa
