/- A part of the proof that the statement FnPatchImageSaid holds, under no condition of its own: Patches carry all changes: the law FnPatchImage over lists of numbers alone. -/
import Derived.Test.YtbgohbinonkhfaaCFnPatchImage1
import Derived.Test.YtbgohbinonkhfaaCFnPatchImage2
import Derived.Test.YtbgohbinonkhfaaCFnPatchImage4
import Derived.Test.YtbgohbinonkhfaaCFnPatchImage3
import Derived.Test.YtbgohbinonkhfaaRows
import Derived.JoinedOf
import Derived.KernelRfl
import Derived.WalkKit
import Derived.ProofKit
import Derived.OpenShut
import Derived.ShutString
import Derived.ChangeOld
import Derived.Below
import Derived.SizedLaws
import Derived.Test.YtbgohbinonkhfaaCFnPatchImageW1
namespace Go.Proofs.Ytbgohbinonkhfaa.Q
open Go.RowKit Go.Proofs.YtbgohbinonkhfaaW.PrintWords Go.Proofs.YtbgohbinonkhfaaW.PrintLast Go.Proofs.YtbgohbinonkhfaaW.PrintMore
attribute [local go_sem] max2_int min2_int max_two min_two max_three min_three max_four min_four
set_option linter.unusedVariables false
set_option linter.unusedSimpArgs false
open Go.Proofs.YtbgohbinonkhfaaW.PrintWords.Aside0 (mk)
set_option maxHeartbeats 12000000
set_option maxRecDepth 100000
mutual
def impl_PatchImage.j0 : Nat → List S60 → Bool → Int → Int → Int → List Int → Int → Int → Int → List Int → Option (Int × Int × Int × List Int × Bool)
 | 0, _, _, _, _, _, _, _, _, _, _ => none
 | k + 1, x2, x28, xz3, xz4, xz5, xz6, xz7, xz8, xz9, xz10 => if x28 = true then (some (0, 0, 0, ([] : List Int), false)) else (impl_PatchImage.l0 k x2 x2 (x2.length : Int) 0 xz3 xz4 xz5 xz6 xz7 xz8 xz9 xz10)
def impl_PatchImage.l0 : Nat → List S60 → List S60 → Int → Int → Int → Int → Int → List Int → Int → Int → Int → List Int → Option (Int × Int × Int × List Int × Bool)
 | 0, _, _, _, _, _, _, _, _, _, _, _, _ => none
 | k + 1, x2, x30, x31, x32, xz3, xz4, xz5, xz6, xz7, xz8, xz9, xz10 => if x32 < x31 then (if 0 ≤ x32 then (if x32 < (x30.length : Int) then ((impl_isBoxOn.f xz3 xz4 xz5 xz6 ((rd_T60 x30 x32).f0) ((rd_T60 x30 x32).f1) ((rd_T60 x30 x32).f2) ((rd_T60 x30 x32).f3)).bind fun tz6 => (if tz6 = true then (impl_PatchImage.l0 k x2 x30 x31 (wrap64 (x32 + 1)) xz3 xz4 xz5 xz6 xz7 xz8 xz9 xz10) else (some (0, 0, 0, ([] : List Int), false)))) else none) else none) else ((impl_patched.f xz3 xz4 xz5 xz6 xz7 xz8 xz9 xz10 x2).bind fun btz0 => (some (btz0.1, btz0.2.1, btz0.2.2.1, btz0.2.2.2, true)))
end
def impl_PatchImage.f (k : Nat) (a0_0 : Int) (a0_1 : Int) (a0_2 : Int) (l0_3 : List Int) (a1_0 : Int) (a1_1 : Int) (a1_2 : Int) (l1_3 : List Int) (l2 : List S60) : Option (Int × Int × Int × List Int × Bool) := (impl_isImage.f a0_0 a0_1 a0_2 l0_3).bind fun tz3 => (if tz3 = true then ((impl_isImage.f a1_0 a1_1 a1_2 l1_3).bind fun tz1 => (if tz1 = true then ((impl_alikeImages.f a0_0 a0_1 a0_2 l0_3 a1_0 a1_1 a1_2 l1_3).bind fun tz0 => (if tz0 = true then (impl_PatchImage.j0 k l2 (decide ((l2.length : Int) > 128)) a0_0 a0_1 a0_2 l0_3 a1_0 a1_1 a1_2 l1_3) else (impl_PatchImage.j0 k l2 true a0_0 a0_1 a0_2 l0_3 a1_0 a1_1 a1_2 l1_3))) else (impl_PatchImage.j0 k l2 true a0_0 a0_1 a0_2 l0_3 a1_0 a1_1 a1_2 l1_3))) else (impl_PatchImage.j0 k l2 true a0_0 a0_1 a0_2 l0_3 a1_0 a1_1 a1_2 l1_3))
theorem impl_PatchImage.calls (k : Nat) (a0_0 : Int) (a0_1 : Int) (a0_2 : Int) (A0_3 : Option Addr) (c0_3 : Nat) (l0_3 : List Int) (a1_0 : Int) (a1_1 : Int) (a1_2 : Int) (A1_3 : Option Addr) (c1_3 : Nat) (l1_3 : List Int) (A2 : Option Addr) (c2 : Nat) (l2 : List S60) (r1 : Int) (r2 : Int) (r3 : Int) (r4 : List Int) (r5 : Bool) (w : World) (hr0_3 : Kd.C (Kd.int .i64) w A0_3 l0_3.length l0_3) (hc0_3 : l0_3.length ≤ c0_3) (hr1_3 : Kd.C (Kd.int .i64) w A1_3 l1_3.length l1_3) (hc1_3 : l1_3.length ≤ c1_3) (hr2 : Kd.C k60 w A2 l2.length l2) (hc2 : l2.length ≤ c2) (h : impl_PatchImage.f k a0_0 a0_1 a0_2 l0_3 a1_0 a1_1 a1_2 l1_3 l2 = some (r1, r2, r3, r4, r5)) :
  Calls Try.prog 41 #[.agg #[.int .i64 a0_0, .int .i64 a0_1, .int .i64 a0_2, .slice A0_3 l0_3.length c0_3], .agg #[.int .i64 a1_0, .int .i64 a1_1, .int .i64 a1_2, .slice A1_3 l1_3.length c1_3], .slice A2 l2.length c2] w fun e w' => ∃ v3_ : Value, e = .returned (.tuple #[.agg #[.int .i64 r1, .int .i64 r2, .int .i64 r3, v3_], .bool r5]) ∧ Kd.R (Kd.int .i64) 3 w' w.heap.size (fun _ => True) v3_ r4 ∧ Below w.heap.size w w' := by
 have HR0_3 := mk hr0_3
 have HC0_3 := mk hc0_3
 clear hr0_3 hc0_3
 have HR1_3 := mk hr1_3
 have HC1_3 := mk hc1_3
 clear hr1_3 hc1_3
 have HR2 := mk hr2
 have HC2 := mk hc2
 clear hr2 hc2
 have HB := mk (Below.refl w.heap.size w)
 have H : ((impl_isImage.f a0_0 a0_1 a0_2 l0_3).bind fun tz3 => (if tz3 = true then ((impl_isImage.f a1_0 a1_1 a1_2 l1_3).bind fun tz1 => (if tz1 = true then ((impl_alikeImages.f a0_0 a0_1 a0_2 l0_3 a1_0 a1_1 a1_2 l1_3).bind fun tz0 => (if tz0 = true then (impl_PatchImage.j0 k l2 (decide ((l2.length : Int) > 128)) a0_0 a0_1 a0_2 l0_3 a1_0 a1_1 a1_2 l1_3) else (impl_PatchImage.j0 k l2 true a0_0 a0_1 a0_2 l0_3 a1_0 a1_1 a1_2 l1_3))) else (impl_PatchImage.j0 k l2 true a0_0 a0_1 a0_2 l0_3 a1_0 a1_1 a1_2 l1_3))) else (impl_PatchImage.j0 k l2 true a0_0 a0_1 a0_2 l0_3 a1_0 a1_1 a1_2 l1_3))) = some (r1, r2, r3, r4, r5) := h
 clear h
 have HC4 := mk H
 clear H
 go_enter Try.func41, Try.ntmps41
 go_upto_region 1 with (first | ((with_reducible refine gate_dst (N := 3) rfl ?_); (try (refine gate_guard (by rfl) ?_; dsimp only)); refine box_event (by rfl) (N := 3) (by rfl) (cs := #[.int .i64 a0_0, .int .i64 a0_1, .int .i64 a0_2, .slice A0_3 l0_3.length c0_3]) (t := 28) (by go_simp; done) ?_; intro gbz0 hg w5 hbox hb; replace HB := mk (below_step HB.out hb); have BKz0 := mk (hbox); clear hb hbox hg) | ((with_reducible refine gate_dst (N := 4) rfl ?_); (try (refine gate_guard (by rfl) ?_; dsimp only)); refine box_event (by rfl) (N := 4) (by rfl) (cs := #[.int .i64 a1_0, .int .i64 a1_1, .int .i64 a1_2, .slice A1_3 l1_3.length c1_3]) (t := 28) (by go_simp; done) ?_; intro gbz1 hg w6 hbox hb; replace HB := mk (below_step HB.out hb); have BKz2 := mk (hbox); have NBz5 := mk ((by rw [hg]; exact Nat.ne_of_lt (blk_lt BKz0.out) : gbz0 ≠ gbz1)); have NBz6 := mk ((by rw [hg]; exact Nat.ne_of_gt (blk_lt BKz0.out) : gbz1 ≠ gbz0)); replace BKz0 := mk (blk_below BKz0.out hb); clear hb hbox hg) | ((with_reducible refine gate_dst (N := 6) rfl ?_); (try (refine gate_guard (by rfl) ?_; dsimp only)); refine box_event (by rfl) (N := 6) (by rfl) (cs := #[.int .i64 0, .int .i64 0, .int .i64 0, .slice none 0 0]) (t := 28) (by go_simp; done) ?_; intro gbz2 hg w7 hbox hb; replace BKz2 := mk (blk_below BKz2.out hb); have BKz1 := mk (hbox); have GEz1 := mk ((by rw [hg]; exact (below_size HB.out) : w.heap.size ≤ gbz2)); replace HB := mk (below_step HB.out hb); have NBz7 := mk ((by rw [hg]; exact Nat.ne_of_lt (blk_lt BKz0.out) : gbz0 ≠ gbz2)); have NBz8 := mk ((by rw [hg]; exact Nat.ne_of_gt (blk_lt BKz0.out) : gbz2 ≠ gbz0)); replace BKz0 := mk (blk_below BKz0.out hb); clear hb hbox hg))
 go_cut [28] (fun v28 wc => ∃ (kq : Nat) (x28_3 : Bool), v28 = .bool x28_3 ∧ Aside0 (impl_PatchImage.j0 kq l2 x28_3 a0_0 a0_1 a0_2 l0_3 a1_0 a1_1 a1_2 l1_3 = some (r1, r2, r3, r4, r5)) ∧ Aside0 (kq ≤ k) ∧ Aside0 (wc.heap[gbz0]? = some (.cells #[.int .i64 a0_0, .int .i64 a0_1, .int .i64 a0_2, (.slice A0_3 l0_3.length c0_3)] 28 (0, 0))) ∧ Aside0 (wc.heap[gbz1]? = some (.cells #[.int .i64 a1_0, .int .i64 a1_1, .int .i64 a1_2, (.slice A1_3 l1_3.length c1_3)] 28 (0, 0))) ∧ Aside0 (wc.heap[gbz2]? = some (.cells #[.int .i64 0, .int .i64 0, .int .i64 0, (.slice none 0 0)] 28 (0, 0))) ∧ Aside0 (Below w.heap.size w wc))
 case first =>
  have H := HC4.out
  clear HC4
  replace H := Option.bind_eq_some_iff.mp H
  obtain ⟨tz3, A80, H⟩ := H
  replace H : (if tz3 = true then ((impl_isImage.f a1_0 a1_1 a1_2 l1_3).bind fun tz1 => (if tz1 = true then ((impl_alikeImages.f a0_0 a0_1 a0_2 l0_3 a1_0 a1_1 a1_2 l1_3).bind fun tz0 => (if tz0 = true then (impl_PatchImage.j0 k l2 (decide ((l2.length : Int) > 128)) a0_0 a0_1 a0_2 l0_3 a1_0 a1_1 a1_2 l1_3) else (impl_PatchImage.j0 k l2 true a0_0 a0_1 a0_2 l0_3 a1_0 a1_1 a1_2 l1_3))) else (impl_PatchImage.j0 k l2 true a0_0 a0_1 a0_2 l0_3 a1_0 a1_1 a1_2 l1_3))) else (impl_PatchImage.j0 k l2 true a0_0 a0_1 a0_2 l0_3 a1_0 a1_1 a1_2 l1_3)) = some (r1, r2, r3, r4, r5) := H
  have A8 := mk A80
  clear A80
  by_cases c9 : tz3 = true
  ·subst c9
   have H1 : ((impl_isImage.f a1_0 a1_1 a1_2 l1_3).bind fun tz1 => (if tz1 = true then ((impl_alikeImages.f a0_0 a0_1 a0_2 l0_3 a1_0 a1_1 a1_2 l1_3).bind fun tz0 => (if tz0 = true then (impl_PatchImage.j0 k l2 (decide ((l2.length : Int) > 128)) a0_0 a0_1 a0_2 l0_3 a1_0 a1_1 a1_2 l1_3) else (impl_PatchImage.j0 k l2 true a0_0 a0_1 a0_2 l0_3 a1_0 a1_1 a1_2 l1_3))) else (impl_PatchImage.j0 k l2 true a0_0 a0_1 a0_2 l0_3 a1_0 a1_1 a1_2 l1_3))) = some (r1, r2, r3, r4, r5) := by rw [if_pos rfl] at H; exact H
   clear H
   have H := H1
   clear H1
   replace H := Option.bind_eq_some_iff.mp H
   obtain ⟨tz1, A100, H⟩ := H
   replace H : (if tz1 = true then ((impl_alikeImages.f a0_0 a0_1 a0_2 l0_3 a1_0 a1_1 a1_2 l1_3).bind fun tz0 => (if tz0 = true then (impl_PatchImage.j0 k l2 (decide ((l2.length : Int) > 128)) a0_0 a0_1 a0_2 l0_3 a1_0 a1_1 a1_2 l1_3) else (impl_PatchImage.j0 k l2 true a0_0 a0_1 a0_2 l0_3 a1_0 a1_1 a1_2 l1_3))) else (impl_PatchImage.j0 k l2 true a0_0 a0_1 a0_2 l0_3 a1_0 a1_1 a1_2 l1_3)) = some (r1, r2, r3, r4, r5) := H
   have A10 := mk A100
   clear A100
   by_cases c11 : tz1 = true
   ·subst c11
    have H1 : ((impl_alikeImages.f a0_0 a0_1 a0_2 l0_3 a1_0 a1_1 a1_2 l1_3).bind fun tz0 => (if tz0 = true then (impl_PatchImage.j0 k l2 (decide ((l2.length : Int) > 128)) a0_0 a0_1 a0_2 l0_3 a1_0 a1_1 a1_2 l1_3) else (impl_PatchImage.j0 k l2 true a0_0 a0_1 a0_2 l0_3 a1_0 a1_1 a1_2 l1_3))) = some (r1, r2, r3, r4, r5) := by rw [if_pos rfl] at H; exact H
    clear H
    have H := H1
    clear H1
    replace H := Option.bind_eq_some_iff.mp H
    obtain ⟨tz0, A120, H⟩ := H
    replace H : (if tz0 = true then (impl_PatchImage.j0 k l2 (decide ((l2.length : Int) > 128)) a0_0 a0_1 a0_2 l0_3 a1_0 a1_1 a1_2 l1_3) else (impl_PatchImage.j0 k l2 true a0_0 a0_1 a0_2 l0_3 a1_0 a1_1 a1_2 l1_3)) = some (r1, r2, r3, r4, r5) := H
    have A12 := mk A120
    clear A120
    by_cases c13 : tz0 = true
    ·subst c13
     have H1 : (impl_PatchImage.j0 k l2 (decide ((l2.length : Int) > 128)) a0_0 a0_1 a0_2 l0_3 a1_0 a1_1 a1_2 l1_3) = some (r1, r2, r3, r4, r5) := by rw [if_pos rfl] at H; exact H
     clear H
     have H := H1
     clear H1
     have H' := mk H
     clear H
     obtain ⟨hcz16_0, hcz16_1, hcz16_2, hcz16_3, -⟩ := c4 BKz0.out
     go_wp2_with (first | ((with_reducible refine gate_callee (f := 48) rfl ?_); refine goesL_ (some 11) rfl rfl Try.func48 (by kernel_rfl) rfl #[.agg #[.int .i64 a0_0, .int .i64 a0_1, .int .i64 a0_2, .slice A0_3 l0_3.length c0_3]] rfl (by (try simp only [bitvec_to_nat]); rfl) ?_; (with_reducible refine (impl_isImage.calls a0_0 a0_1 a0_2 _ _ l0_3 true _ ?side1 ?side2 A8.out).mono ?_); (case side1 => repeat (exact (Kd.C_below HR0_3.out HB.out))); (case side2 => exact HC0_3.out); rintro e w17 ⟨rfl, hb⟩; refine ⟨_, rfl, ?_⟩; replace BKz0 := mk (blk_below BKz0.out hb); replace BKz2 := mk (blk_below BKz2.out hb); replace BKz1 := mk (blk_below BKz1.out hb); replace HB := mk (below_step HB.out hb); (try clear hb); obtain ⟨hcz19_0, hcz19_1, hcz19_2, -⟩ := c4 BKz2.out; have hcz19_3 : w17.cell? ⟨gbz1, 3, none⟩ = some (.slice A1_3 l1_3.length c1_3) := (blk_cell BKz2.out 3).trans rfl) | (go_at_call 48; (with_reducible refine (impl_isImage.calls a1_0 a1_1 a1_2 _ _ l1_3 true _ ?side1 ?side2 A10.out).mono ?_); (case side1 => repeat (exact (Kd.C_below HR1_3.out HB.out))); (case side2 => exact HC1_3.out); rintro e w20 ⟨rfl, hb⟩; replace BKz0 := mk (blk_below BKz0.out hb); replace BKz2 := mk (blk_below BKz2.out hb); replace BKz1 := mk (blk_below BKz1.out hb); replace HB := mk (below_step HB.out hb); (try clear hb); obtain ⟨hcz21_0, hcz21_1, hcz21_2, hcz21_3, -⟩ := c4 BKz0.out; obtain ⟨hcz22_0, hcz22_1, hcz22_2, -⟩ := c4 BKz2.out; have hcz22_3 : w20.cell? ⟨gbz1, 3, none⟩ = some (.slice A1_3 l1_3.length c1_3) := (blk_cell BKz2.out 3).trans rfl) | (go_at_call 49; (with_reducible refine (impl_alikeImages.calls a0_0 a0_1 a0_2 _ _ l0_3 a1_0 a1_1 a1_2 _ _ l1_3 true _ ?side1 ?side2 ?side3 ?side4 A12.out).mono ?_); (case side1 => repeat (exact (Kd.C_below HR0_3.out HB.out))); (case side2 => exact HC0_3.out); (case side3 => repeat (exact (Kd.C_below HR1_3.out HB.out))); (case side4 => exact HC1_3.out); rintro e w23 ⟨rfl, hb⟩; replace BKz0 := mk (blk_below BKz0.out hb); replace BKz2 := mk (blk_below BKz2.out hb); replace BKz1 := mk (blk_below BKz1.out hb); replace HB := mk (below_step HB.out hb); (try clear hb)))
     go_meet
     case rel => exact ⟨_, (decide ((l2.length : Int) > 128)), (by rfl), H', ⟨by omega⟩, BKz0, BKz2, BKz1, HB⟩
    replace c13 := Bool.eq_false_iff.mpr c13
    subst c13
    have H1 : (impl_PatchImage.j0 k l2 true a0_0 a0_1 a0_2 l0_3 a1_0 a1_1 a1_2 l1_3) = some (r1, r2, r3, r4, r5) := by rw [if_neg (show ¬ (false = true) by decide)] at H; exact H
    clear H
    have H := H1
    clear H1
    have H' := mk H
    clear H
    obtain ⟨hcz26_0, hcz26_1, hcz26_2, hcz26_3, -⟩ := c4 BKz0.out
    go_wp2_with (first | ((with_reducible refine gate_callee (f := 48) rfl ?_); refine goesL_ (some 11) rfl rfl Try.func48 (by kernel_rfl) rfl #[.agg #[.int .i64 a0_0, .int .i64 a0_1, .int .i64 a0_2, .slice A0_3 l0_3.length c0_3]] rfl (by (try simp only [bitvec_to_nat]); rfl) ?_; (with_reducible refine (impl_isImage.calls a0_0 a0_1 a0_2 _ _ l0_3 true _ ?side1 ?side2 A8.out).mono ?_); (case side1 => repeat (exact (Kd.C_below HR0_3.out HB.out))); (case side2 => exact HC0_3.out); rintro e w27 ⟨rfl, hb⟩; refine ⟨_, rfl, ?_⟩; replace BKz0 := mk (blk_below BKz0.out hb); replace BKz2 := mk (blk_below BKz2.out hb); replace BKz1 := mk (blk_below BKz1.out hb); replace HB := mk (below_step HB.out hb); (try clear hb); obtain ⟨hcz29_0, hcz29_1, hcz29_2, -⟩ := c4 BKz2.out; have hcz29_3 : w27.cell? ⟨gbz1, 3, none⟩ = some (.slice A1_3 l1_3.length c1_3) := (blk_cell BKz2.out 3).trans rfl) | (go_at_call 48; (with_reducible refine (impl_isImage.calls a1_0 a1_1 a1_2 _ _ l1_3 true _ ?side1 ?side2 A10.out).mono ?_); (case side1 => repeat (exact (Kd.C_below HR1_3.out HB.out))); (case side2 => exact HC1_3.out); rintro e w30 ⟨rfl, hb⟩; replace BKz0 := mk (blk_below BKz0.out hb); replace BKz2 := mk (blk_below BKz2.out hb); replace BKz1 := mk (blk_below BKz1.out hb); replace HB := mk (below_step HB.out hb); (try clear hb); obtain ⟨hcz31_0, hcz31_1, hcz31_2, hcz31_3, -⟩ := c4 BKz0.out; obtain ⟨hcz32_0, hcz32_1, hcz32_2, -⟩ := c4 BKz2.out; have hcz32_3 : w30.cell? ⟨gbz1, 3, none⟩ = some (.slice A1_3 l1_3.length c1_3) := (blk_cell BKz2.out 3).trans rfl) | (go_at_call 49; (with_reducible refine (impl_alikeImages.calls a0_0 a0_1 a0_2 _ _ l0_3 a1_0 a1_1 a1_2 _ _ l1_3 false _ ?side1 ?side2 ?side3 ?side4 A12.out).mono ?_); (case side1 => repeat (exact (Kd.C_below HR0_3.out HB.out))); (case side2 => exact HC0_3.out); (case side3 => repeat (exact (Kd.C_below HR1_3.out HB.out))); (case side4 => exact HC1_3.out); rintro e w33 ⟨rfl, hb⟩; replace BKz0 := mk (blk_below BKz0.out hb); replace BKz2 := mk (blk_below BKz2.out hb); replace BKz1 := mk (blk_below BKz1.out hb); replace HB := mk (below_step HB.out hb); (try clear hb)))
    go_meet
    case rel => exact ⟨_, (true), (by rfl), H', ⟨by omega⟩, BKz0, BKz2, BKz1, HB⟩
   replace c11 := Bool.eq_false_iff.mpr c11
   subst c11
   have H1 : (impl_PatchImage.j0 k l2 true a0_0 a0_1 a0_2 l0_3 a1_0 a1_1 a1_2 l1_3) = some (r1, r2, r3, r4, r5) := by rw [if_neg (show ¬ (false = true) by decide)] at H; exact H
   clear H
   have H := H1
   clear H1
   have H' := mk H
   clear H
   obtain ⟨hcz36_0, hcz36_1, hcz36_2, hcz36_3, -⟩ := c4 BKz0.out
   go_wp2_with (first | ((with_reducible refine gate_callee (f := 48) rfl ?_); refine goesL_ (some 11) rfl rfl Try.func48 (by kernel_rfl) rfl #[.agg #[.int .i64 a0_0, .int .i64 a0_1, .int .i64 a0_2, .slice A0_3 l0_3.length c0_3]] rfl (by (try simp only [bitvec_to_nat]); rfl) ?_; (with_reducible refine (impl_isImage.calls a0_0 a0_1 a0_2 _ _ l0_3 true _ ?side1 ?side2 A8.out).mono ?_); (case side1 => repeat (exact (Kd.C_below HR0_3.out HB.out))); (case side2 => exact HC0_3.out); rintro e w37 ⟨rfl, hb⟩; refine ⟨_, rfl, ?_⟩; replace BKz0 := mk (blk_below BKz0.out hb); replace BKz2 := mk (blk_below BKz2.out hb); replace BKz1 := mk (blk_below BKz1.out hb); replace HB := mk (below_step HB.out hb); (try clear hb); obtain ⟨hcz39_0, hcz39_1, hcz39_2, -⟩ := c4 BKz2.out; have hcz39_3 : w37.cell? ⟨gbz1, 3, none⟩ = some (.slice A1_3 l1_3.length c1_3) := (blk_cell BKz2.out 3).trans rfl) | (go_at_call 48; (with_reducible refine (impl_isImage.calls a1_0 a1_1 a1_2 _ _ l1_3 false _ ?side1 ?side2 A10.out).mono ?_); (case side1 => repeat (exact (Kd.C_below HR1_3.out HB.out))); (case side2 => exact HC1_3.out); rintro e w40 ⟨rfl, hb⟩; replace BKz0 := mk (blk_below BKz0.out hb); replace BKz2 := mk (blk_below BKz2.out hb); replace BKz1 := mk (blk_below BKz1.out hb); replace HB := mk (below_step HB.out hb); (try clear hb)))
   go_meet
   case rel => exact ⟨_, (true), (by rfl), H', ⟨by omega⟩, BKz0, BKz2, BKz1, HB⟩
  replace c9 := Bool.eq_false_iff.mpr c9
  subst c9
  have H1 : (impl_PatchImage.j0 k l2 true a0_0 a0_1 a0_2 l0_3 a1_0 a1_1 a1_2 l1_3) = some (r1, r2, r3, r4, r5) := by rw [if_neg (show ¬ (false = true) by decide)] at H; exact H
  clear H
  have H := H1
  clear H1
  have H' := mk H
  clear H
  obtain ⟨hcz43_0, hcz43_1, hcz43_2, hcz43_3, -⟩ := c4 BKz0.out
  go_wp2_with (first | ((with_reducible refine gate_callee (f := 48) rfl ?_); refine goesL_ (some 11) rfl rfl Try.func48 (by kernel_rfl) rfl #[.agg #[.int .i64 a0_0, .int .i64 a0_1, .int .i64 a0_2, .slice A0_3 l0_3.length c0_3]] rfl (by (try simp only [bitvec_to_nat]); rfl) ?_; (with_reducible refine (impl_isImage.calls a0_0 a0_1 a0_2 _ _ l0_3 false _ ?side1 ?side2 A8.out).mono ?_); (case side1 => repeat (exact (Kd.C_below HR0_3.out HB.out))); (case side2 => exact HC0_3.out); rintro e w44 ⟨rfl, hb⟩; refine ⟨_, rfl, ?_⟩; replace BKz0 := mk (blk_below BKz0.out hb); replace BKz2 := mk (blk_below BKz2.out hb); replace BKz1 := mk (blk_below BKz1.out hb); replace HB := mk (below_step HB.out hb); (try clear hb)))
  go_meet
  case rel => exact ⟨_, (true), (by rfl), H', ⟨by omega⟩, BKz0, BKz2, BKz1, HB⟩
 case rest =>
  clear HC4
  obtain ⟨kq, x28_3, rfl, HA, HJ3, BKz0, BKz2, BKz1, HB⟩ := hcut
  cases kq with
  | zero => exact absurd HA.out (by simp [impl_PatchImage.j0])
  | succ kj3 =>
   have H := HA.out
   clear HA
   simp only [impl_PatchImage.j0] at H
   by_cases c45 : x28_3 = true
   ·subst c45
    have H1 : (some (0, 0, 0, ([] : List Int), false)) = some (r1, r2, r3, r4, r5) := by rw [if_pos rfl] at H; exact H
    clear H
    have H := H1
    clear H1
    simp only [Option.some.injEq, Prod.mk.injEq] at H
    obtain ⟨rfl, rfl, rfl, rfl, rfl⟩ := H
    obtain ⟨hcz48_0, hcz48_1, hcz48_2, hcz48_3, hfz48_0, hfz48_1, hfz48_2, hfz48_3⟩ := c4 BKz1.out
    go_wp2
    refine bodyPost_ret (results_ct rfl _ _ gbz2 28 #[.int .i64 0, .int .i64 0, .int .i64 0, .slice none 0 0] (0, 0) _ rfl (by refine p4 (.int .i64 0) (.int .i64 0) (.int .i64 0) (.slice none 0 0) ?_; exact BKz1.out) Try.underlying28 rfl (by kernel_rfl)) rfl ?_
    exact ⟨_, by rfl, by exact Kd.R_nil _ _ _ _ _, by repeat (with_reducible first | exact HB.out | refine below_set ?_ GEz1.out)⟩
   replace c45 := Bool.eq_false_iff.mpr c45
   subst c45
   have H1 : (impl_PatchImage.l0 kj3 l2 l2 (l2.length : Int) 0 a0_0 a0_1 a0_2 l0_3 a1_0 a1_1 a1_2 l1_3) = some (r1, r2, r3, r4, r5) := by rw [if_neg (show ¬ (false = true) by decide)] at H; exact H
   clear H
   have H := H1
   clear H1
   have H' := mk H
   clear H
   go_wp2
   go_loopg [32] kj3 (fun kq v32 w' => ∃ (x32_2 : Int) (xz2 : Int) (xz1 : Int) (xz0 : Int), v32 = .int .i64 x32_2 ∧ Aside0 (impl_PatchImage.l0 kq l2 l2 (l2.length : Int) x32_2 a0_0 a0_1 a0_2 l0_3 a1_0 a1_1 a1_2 l1_3 = some (r1, r2, r3, r4, r5)) ∧ Aside0 (kq ≤ kj3) ∧ Aside0 (w'.heap[gbz0]? = some (.cells #[.int .i64 a0_0, .int .i64 a0_1, .int .i64 a0_2, (.slice A0_3 l0_3.length c0_3)] 28 (0, 0))) ∧ Aside0 (w'.heap[gbz1]? = some (.cells #[.int .i64 a1_0, .int .i64 a1_1, .int .i64 a1_2, (.slice A1_3 l1_3.length c1_3)] 28 (0, 0))) ∧ Aside0 (w'.heap[gbz2]? = some (.cells #[.int .i64 xz2, .int .i64 xz1, .int .i64 xz0, (.slice none 0 0)] 28 (0, 0))) ∧ Aside0 (Below w.heap.size w w'))
   case atStart => exact ⟨(0), (0), (0), (0), (by rfl), H', ⟨Nat.le_refl _⟩, BKz0, BKz2, BKz1, HB⟩
   case round =>
    clear H'
    obtain ⟨x32_2, xz2, xz1, xz0, rfl, HA, HK2, BKz0, BKz2, BKz1, HB⟩ := hrel
    cases gk with
    | zero => exact absurd HA.out (by simp [impl_PatchImage.l0])
    | succ k2 =>
     have H := HA.out
     clear HA
     simp only [impl_PatchImage.l0] at H
     by_cases c49 : x32_2 < (l2.length : Int)
     ·rw [if_pos c49] at H
      have c49b0 : decide (x32_2 < (l2.length : Int)) = true := decide_eq_true c49
      clear c49
      by_cases c50 : 0 ≤ x32_2
      ·rw [if_pos c50] at H
       have c50b0 : decide (0 ≤ x32_2) = true := decide_eq_true c50
       clear c50
       by_cases c51 : x32_2 < (l2.length : Int)
       ·rw [if_pos c51] at H
        have c51b0 : decide (x32_2 < (l2.length : Int)) = true := decide_eq_true c51
        clear c51
        replace H := Option.bind_eq_some_iff.mp H
        obtain ⟨tz6, A520, H⟩ := H
        replace H : (if tz6 = true then (impl_PatchImage.l0 k2 l2 l2 (l2.length : Int) (wrap64 (x32_2 + 1)) a0_0 a0_1 a0_2 l0_3 a1_0 a1_1 a1_2 l1_3) else (some (0, 0, 0, ([] : List Int), false))) = some (r1, r2, r3, r4, r5) := H
        have A52 := mk A520
        clear A520
        by_cases c53 : tz6 = true
        ·subst c53
         have H1 : (impl_PatchImage.l0 k2 l2 l2 (l2.length : Int) (wrap64 (x32_2 + 1)) a0_0 a0_1 a0_2 l0_3 a1_0 a1_1 a1_2 l1_3) = some (r1, r2, r3, r4, r5) := by rw [if_pos rfl] at H; exact H
         clear H
         have H := H1
         clear H1
         have H' := mk H
         clear H
         have p42007 : 0 ≤ (x32_2 : Int) := of_decide_eq_true (by (with_reducible assumption))
         have q42007 : x32_2 < (l2.length : Int) := of_decide_eq_true (by (with_reducible assumption))
         obtain ⟨ad42007, e42007, hx42007_0, hx42007_1, hx42007_2, hx42007_3⟩ := at_T60 HR2.out x32_2 p42007 q42007
         cases e42007
         replace hx42007_0 := bc HB.out hx42007_0
         replace hx42007_1 := bc HB.out hx42007_1
         replace hx42007_2 := bc HB.out hx42007_2
         replace hx42007_3 := bc HB.out hx42007_3
         replace p42007 := eq_true p42007
         replace q42007 := eq_true q42007
         go_wp2_with (first | ((with_reducible refine gate_dst (N := 9) rfl ?_); (try (refine gate_guard (by rfl) ?_; dsimp only)); refine box_event (by rfl) (N := 9) (by rfl) (cs := #[.int .i64 0, .int .i64 0, .int .i64 0, .int .i64 0]) (t := 60) (by go_simp; done) ?_; intro gbz3 hg w54 hbox hb; have BKz3 := mk (hbox); have GEz0 := mk ((by rw [hg]; exact (below_size HB.out) : w.heap.size ≤ gbz3)); replace HB := mk (below_step HB.out hb); have NBz1 := mk ((by rw [hg]; exact Nat.ne_of_lt (blk_lt BKz0.out) : gbz0 ≠ gbz3)); replace BKz0 := mk (blk_below BKz0.out hb); have NBz2 := mk ((by rw [hg]; exact Nat.ne_of_lt (blk_lt BKz2.out) : gbz1 ≠ gbz3)); have NBz3 := mk ((by rw [hg]; exact Nat.ne_of_gt (blk_lt BKz2.out) : gbz3 ≠ gbz1)); replace BKz2 := mk (blk_below BKz2.out hb); have NBz0 := mk ((by rw [hg]; exact Nat.ne_of_lt (blk_lt BKz1.out) : gbz2 ≠ gbz3)); have NBz4 := mk ((by rw [hg]; exact Nat.ne_of_gt (blk_lt BKz1.out) : gbz3 ≠ gbz2)); replace BKz1 := mk (blk_below BKz1.out hb); clear hb hbox hg; have hnc55 := NBz1.out; have hnb56 := NBz3.out; have hnc56 := NBz2.out; have hnb57 := NBz4.out; have hnc57 := NBz0.out; obtain ⟨hcz58_0, hcz58_1, hcz58_2, hcz58_3, hfz58_0, hfz58_1, hfz58_2, hfz58_3⟩ := c4 BKz3.out; have hnb59 := NBz5.out; have hnc59 := NBz6.out; have hnb60 := NBz7.out; have hnc60 := NBz8.out; obtain ⟨hcz61_0, hcz61_1, hcz61_2, -⟩ := c4 BKz0.out; have hcz61_3 : w54.cell? ⟨gbz0, 3, none⟩ = some (.slice A0_3 l0_3.length c0_3) := (blk_cell BKz0.out 3).trans rfl) | ((with_reducible refine gate_callee (f := 84) rfl ?_); refine goesL_ (some 38) rfl rfl Try.func84 (by kernel_rfl) rfl #[.agg #[.int .i64 a0_0, .int .i64 a0_1, .int .i64 a0_2, .slice A0_3 l0_3.length c0_3], .agg #[.int .i64 ((rd_T60 l2 x32_2).f0), .int .i64 ((rd_T60 l2 x32_2).f1), .int .i64 ((rd_T60 l2 x32_2).f2), .int .i64 ((rd_T60 l2 x32_2).f3)]] rfl (by (try simp only [bitvec_to_nat]); rfl) ?_; (with_reducible refine (impl_isBoxOn.calls a0_0 a0_1 a0_2 _ _ l0_3 ((rd_T60 l2 x32_2).f0) ((rd_T60 l2 x32_2).f1) ((rd_T60 l2 x32_2).f2) ((rd_T60 l2 x32_2).f3) true _ ?side1 ?side2 A52.out).mono ?_); (case side1 => exact Kd.C_below HR0_3.out (by repeat (with_reducible first | exact HB.out | refine below_set ?_ GEz0.out))); (case side2 => exact HC0_3.out); rintro e w62 ⟨rfl, hb⟩; refine ⟨_, rfl, ?_⟩; have n0_ := mk (blk_below (g := gbz0) (o := .cells #[.int .i64 a0_0, .int .i64 a0_1, .int .i64 a0_2, .slice A0_3 l0_3.length c0_3] 28 (0, 0)) (by refine f4 ?_ NBz1.out; exact BKz0.out) hb); have n1_ := mk (blk_below (g := gbz1) (o := .cells #[.int .i64 a1_0, .int .i64 a1_1, .int .i64 a1_2, .slice A1_3 l1_3.length c1_3] 28 (0, 0)) (by refine f4 ?_ NBz2.out; exact BKz2.out) hb); have n2_ := mk (blk_below (g := gbz2) (o := .cells #[.int .i64 xz2, .int .i64 xz1, .int .i64 xz0, .slice none 0 0] 28 (0, 0)) (by refine f4 ?_ NBz0.out; exact BKz1.out) hb); have n4_ := mk (below_step (by repeat (with_reducible first | exact HB.out | refine below_set ?_ GEz0.out)) hb); clear BKz0; clear BKz2; clear BKz1; clear BKz3; clear HB; have BKz0 := n0_; have BKz2 := n1_; have BKz1 := n2_; have HB := n4_; (try clear hb)))
         go_roundg k2
         case measure => have := HJ3.out; have := HK2.out; omega
         case rel => exact ⟨(wrap64 (x32_2 + 1)), (xz2), (xz1), (xz0), (by rfl), H', ⟨by have := HJ3.out; have := HK2.out; omega⟩, BKz0, BKz2, BKz1, HB⟩
        replace c53 := Bool.eq_false_iff.mpr c53
        subst c53
        have H1 : (some (0, 0, 0, ([] : List Int), false)) = some (r1, r2, r3, r4, r5) := by rw [if_neg (show ¬ (false = true) by decide)] at H; exact H
        clear H
        have H := H1
        clear H1
        simp only [Option.some.injEq, Prod.mk.injEq] at H
        obtain ⟨rfl, rfl, rfl, rfl, rfl⟩ := H
        have p42007 : 0 ≤ (x32_2 : Int) := of_decide_eq_true (by (with_reducible assumption))
        have q42007 : x32_2 < (l2.length : Int) := of_decide_eq_true (by (with_reducible assumption))
        obtain ⟨ad42007, e42007, hx42007_0, hx42007_1, hx42007_2, hx42007_3⟩ := at_T60 HR2.out x32_2 p42007 q42007
        cases e42007
        replace hx42007_0 := bc HB.out hx42007_0
        replace hx42007_1 := bc HB.out hx42007_1
        replace hx42007_2 := bc HB.out hx42007_2
        replace hx42007_3 := bc HB.out hx42007_3
        replace p42007 := eq_true p42007
        replace q42007 := eq_true q42007
        go_wp2_with (first | ((with_reducible refine gate_dst (N := 9) rfl ?_); (try (refine gate_guard (by rfl) ?_; dsimp only)); refine box_event (by rfl) (N := 9) (by rfl) (cs := #[.int .i64 0, .int .i64 0, .int .i64 0, .int .i64 0]) (t := 60) (by go_simp; done) ?_; intro gbz3 hg w63 hbox hb; have BKz3 := mk (hbox); have GEz0 := mk ((by rw [hg]; exact (below_size HB.out) : w.heap.size ≤ gbz3)); replace HB := mk (below_step HB.out hb); have NBz1 := mk ((by rw [hg]; exact Nat.ne_of_lt (blk_lt BKz0.out) : gbz0 ≠ gbz3)); replace BKz0 := mk (blk_below BKz0.out hb); have NBz2 := mk ((by rw [hg]; exact Nat.ne_of_lt (blk_lt BKz2.out) : gbz1 ≠ gbz3)); have NBz3 := mk ((by rw [hg]; exact Nat.ne_of_gt (blk_lt BKz2.out) : gbz3 ≠ gbz1)); replace BKz2 := mk (blk_below BKz2.out hb); have NBz0 := mk ((by rw [hg]; exact Nat.ne_of_lt (blk_lt BKz1.out) : gbz2 ≠ gbz3)); have NBz4 := mk ((by rw [hg]; exact Nat.ne_of_gt (blk_lt BKz1.out) : gbz3 ≠ gbz2)); replace BKz1 := mk (blk_below BKz1.out hb); clear hb hbox hg; have hnc64 := NBz1.out; have hnb65 := NBz3.out; have hnc65 := NBz2.out; have hnb66 := NBz4.out; have hnc66 := NBz0.out; obtain ⟨hcz67_0, hcz67_1, hcz67_2, hcz67_3, hfz67_0, hfz67_1, hfz67_2, hfz67_3⟩ := c4 BKz3.out; have hnb68 := NBz5.out; have hnc68 := NBz6.out; have hnb69 := NBz7.out; have hnc69 := NBz8.out; obtain ⟨hcz70_0, hcz70_1, hcz70_2, -⟩ := c4 BKz0.out; have hcz70_3 : w63.cell? ⟨gbz0, 3, none⟩ = some (.slice A0_3 l0_3.length c0_3) := (blk_cell BKz0.out 3).trans rfl) | ((with_reducible refine gate_callee (f := 84) rfl ?_); refine goesL_ (some 38) rfl rfl Try.func84 (by kernel_rfl) rfl #[.agg #[.int .i64 a0_0, .int .i64 a0_1, .int .i64 a0_2, .slice A0_3 l0_3.length c0_3], .agg #[.int .i64 ((rd_T60 l2 x32_2).f0), .int .i64 ((rd_T60 l2 x32_2).f1), .int .i64 ((rd_T60 l2 x32_2).f2), .int .i64 ((rd_T60 l2 x32_2).f3)]] rfl (by (try simp only [bitvec_to_nat]); rfl) ?_; (with_reducible refine (impl_isBoxOn.calls a0_0 a0_1 a0_2 _ _ l0_3 ((rd_T60 l2 x32_2).f0) ((rd_T60 l2 x32_2).f1) ((rd_T60 l2 x32_2).f2) ((rd_T60 l2 x32_2).f3) false _ ?side1 ?side2 A52.out).mono ?_); (case side1 => exact Kd.C_below HR0_3.out (by repeat (with_reducible first | exact HB.out | refine below_set ?_ GEz0.out))); (case side2 => exact HC0_3.out); rintro e w71 ⟨rfl, hb⟩; refine ⟨_, rfl, ?_⟩; have n2_ := mk (blk_below (g := gbz2) (o := .cells #[.int .i64 xz2, .int .i64 xz1, .int .i64 xz0, .slice none 0 0] 28 (0, 0)) (by refine f4 ?_ NBz0.out; exact BKz1.out) hb); have n4_ := mk (below_step (by repeat (with_reducible first | exact HB.out | refine below_set ?_ GEz0.out)) hb); clear BKz0; clear BKz2; clear BKz1; clear BKz3; clear HB; have BKz1 := n2_; have HB := n4_; (try clear hb); obtain ⟨hcz73_0, hcz73_1, hcz73_2, hcz73_3, hfz73_0, hfz73_1, hfz73_2, hfz73_3⟩ := c4 BKz1.out))
        refine bodyPost_ret (results_ct rfl _ _ gbz2 28 #[.int .i64 0, .int .i64 0, .int .i64 0, .slice none 0 0] (0, 0) _ rfl (by refine p4 (.int .i64 xz2) (.int .i64 xz1) (.int .i64 xz0) (.slice none 0 0) ?_; exact BKz1.out) Try.underlying28 rfl (by kernel_rfl)) rfl ?_
        exact ⟨_, by rfl, by exact Kd.R_nil _ _ _ _ _, by repeat (with_reducible first | exact HB.out | refine below_set ?_ GEz1.out)⟩
       rw [if_neg c51] at H
       exact absurd H (by simp)
      rw [if_neg c50] at H
      exact absurd H (by simp)
     rw [if_neg c49] at H
     have c49b0 : decide (x32_2 < (l2.length : Int)) = false := decide_eq_false c49
     clear c49
     replace H := Option.bind_eq_some_iff.mp H
     obtain ⟨⟨tz2, tz4, tz5, tz7⟩, A740, H⟩ := H
     replace H : (some (tz2, tz4, tz5, tz7, true)) = some (r1, r2, r3, r4, r5) := H
     have A74 := mk A740
     clear A740
     simp only [Option.some.injEq, Prod.mk.injEq] at H
     obtain ⟨rfl, rfl, rfl, rfl, rfl⟩ := H
     obtain ⟨hcz77_0, hcz77_1, hcz77_2, hcz77_3, -⟩ := c4 BKz0.out
     obtain ⟨hcz79_0, hcz79_1, hcz79_2, hcz79_3, -⟩ := c4 BKz2.out
     go_wp2_with (first | ((with_reducible refine gate_callee (f := 85) rfl ?_); refine goesL_ (some 45) rfl rfl Try.func85 (by kernel_rfl) rfl #[.agg #[.int .i64 a0_0, .int .i64 a0_1, .int .i64 a0_2, .slice A0_3 l0_3.length c0_3], .agg #[.int .i64 a1_0, .int .i64 a1_1, .int .i64 a1_2, .slice A1_3 l1_3.length c1_3], .slice A2 l2.length c2] rfl (by (try simp only [bitvec_to_nat]); rfl) ?_; (with_reducible refine (impl_patched.calls a0_0 a0_1 a0_2 _ _ l0_3 a1_0 a1_1 a1_2 _ _ l1_3 _ _ l2 tz2 tz4 tz5 tz7 _ ?side1 ?side2 ?side3 ?side4 ?side5 ?side6 A74.out).mono ?_); (case side1 => repeat (exact (Kd.C_below HR0_3.out HB.out))); (case side2 => exact HC0_3.out); (case side3 => repeat (exact (Kd.C_below HR1_3.out HB.out))); (case side4 => exact HC1_3.out); (case side5 => repeat (exact (Kd.C_below HR2.out HB.out))); (case side6 => exact HC2.out); rintro e w80 ⟨vz0, rfl, ho0, hb⟩; refine ⟨_, rfl, ?_⟩; have n0_ := mk (Kd.R_lower ho0 (below_size HB.out)); have n3_ := mk (blk_below BKz1.out hb); have n4_ := mk (below_step HB.out hb); clear BKz0; clear BKz2; clear BKz1; clear HB; have HOz0 := n0_; have BKz1 := n3_; have HB := n4_; (try clear hb); (try clear ho0); obtain ⟨hcz81_0, hcz81_1, hcz81_2, hcz81_3, hfz81_0, hfz81_1, hfz81_2, hfz81_3⟩ := c4 BKz1.out; obtain ⟨Ao82, co82, eo82⟩ := Kd.R_slice HOz0.out; subst eo82))
     refine bodyPost_ret (results_ct rfl _ _ gbz2 28 #[.int .i64 tz2, .int .i64 tz4, .int .i64 tz5, .slice Ao82 tz7.length co82] (0, 0) _ rfl (by refine p4 (.int .i64 xz2) (.int .i64 xz1) (.int .i64 xz0) (.slice none 0 0) ?_; exact BKz1.out) Try.underlying28 rfl (by kernel_rfl)) rfl ?_
     exact ⟨_, by rfl, by exact Kd.R_mono (R4 (Kd.R_types HOz0.out BKz1.out (by decide)) (.int .i64 tz2) (.int .i64 tz4) (.int .i64 tz5) (.slice Ao82 tz7.length co82)) (fun _ hk => trivial), by repeat (with_reducible first | exact HB.out | refine below_set ?_ GEz1.out)⟩


noncomputable def laws_FnPatchImage.j0 : Nat → Bool → Bool → Bool → Int → Int → Int → List Int → Int → Int → Int → List Int → Int → Int → Int → List Int → Int → Int → Int → List Int → Option (Bool)
 | 0, _, _, _, _, _, _, _, _, _, _, _, _, _, _, _, _, _, _, _ => none
 | k + 1, x7, x9, x49, xz0, xz1, xz2, xz3, xz4, xz5, xz6, xz7, xz8, xz9, xz10, xz11, xz12, xz13, xz14, xz15 => if x49 = true then ((laws_equalImage.f k xz8 xz9 xz10 xz11 xz12 xz13 xz14 xz15).bind fun tz31 => (if tz31 = true then (some (x7 == x9)) else (some false))) else ((impl_ChangedBoxes.f xz0 xz1 xz2 xz3 xz4 xz5 xz6 xz7).bind fun tz27 => ((impl_PatchImage.f k xz0 xz1 xz2 xz3 xz4 xz5 xz6 xz7 tz27).bind fun btz4 => ((impl_PatchImage.f k xz0 xz1 xz2 xz3 xz4 xz5 xz6 xz7 ([] : List S60)).bind fun btz3 => (if btz4.2.2.2.2 = true then ((laws_equalImage.f k btz4.1 btz4.2.1 btz4.2.2.1 btz4.2.2.2.1 xz4 xz5 xz6 xz7).bind fun tz28 => (if tz28 = true then (if btz3.2.2.2.2 = true then ((laws_equalImage.f k btz3.1 btz3.2.1 btz3.2.2.1 btz3.2.2.2.1 xz0 xz1 xz2 xz3).bind fun tz23 => (some tz23)) else (some false)) else (some false))) else (some false)))))
noncomputable def laws_FnPatchImage.f (k : Nat) (l0 : List Int) : Option Bool := if (l0.length : Int) > 1048576 then (some true) else ((spec_DrawPatchImage.f k l0).bind fun btz0 => ((impl_PatchImage.f k btz0.1 btz0.2.1 btz0.2.2.1 btz0.2.2.2.1 btz0.2.2.2.2.1 btz0.2.2.2.2.2.1 btz0.2.2.2.2.2.2.1 btz0.2.2.2.2.2.2.2.1 btz0.2.2.2.2.2.2.2.2).bind fun btz2 => ((spec_PatchImage.f k btz0.1 btz0.2.1 btz0.2.2.1 btz0.2.2.2.1 btz0.2.2.2.2.1 btz0.2.2.2.2.2.1 btz0.2.2.2.2.2.2.1 btz0.2.2.2.2.2.2.2.1 btz0.2.2.2.2.2.2.2.2).bind fun btz1 => ((laws_equalImage.f k btz2.1 btz2.2.1 btz2.2.2.1 btz2.2.2.2.1 btz1.1 btz1.2.1 btz1.2.2.1 btz1.2.2.2.1).bind fun tz29 => (if tz29 = true then (if (btz2.2.2.2.2 != btz1.2.2.2.2) = true then (laws_FnPatchImage.j0 k btz2.2.2.2.2 btz1.2.2.2.2 true btz0.1 btz0.2.1 btz0.2.2.1 btz0.2.2.2.1 btz0.2.2.2.2.1 btz0.2.2.2.2.2.1 btz0.2.2.2.2.2.2.1 btz0.2.2.2.2.2.2.2.1 btz2.1 btz2.2.1 btz2.2.2.1 btz2.2.2.2.1 btz1.1 btz1.2.1 btz1.2.2.1 btz1.2.2.2.1) else (laws_FnPatchImage.j0 k btz2.2.2.2.2 btz1.2.2.2.2 (!btz2.2.2.2.2) btz0.1 btz0.2.1 btz0.2.2.1 btz0.2.2.2.1 btz0.2.2.2.2.1 btz0.2.2.2.2.2.1 btz0.2.2.2.2.2.2.1 btz0.2.2.2.2.2.2.2.1 btz2.1 btz2.2.1 btz2.2.2.1 btz2.2.2.2.1 btz1.1 btz1.2.1 btz1.2.2.1 btz1.2.2.2.1)) else (laws_FnPatchImage.j0 k btz2.2.2.2.2 btz1.2.2.2.2 true btz0.1 btz0.2.1 btz0.2.2.1 btz0.2.2.2.1 btz0.2.2.2.2.1 btz0.2.2.2.2.2.1 btz0.2.2.2.2.2.2.1 btz0.2.2.2.2.2.2.2.1 btz2.1 btz2.2.1 btz2.2.2.1 btz2.2.2.2.1 btz1.1 btz1.2.1 btz1.2.2.1 btz1.2.2.2.1))))))
noncomputable def laws_FnPatchImage.T8 : Bool × List (List Nat × List Nat) := (true, [([], []), ([], []), ([], []), ([], []), ([2, 3], [2, 3]), ([0, 1, 4, 4], [0, 1, 4]), ([5], [5]), ([6], [6]), ([6], [6]), ([], []), ([9, 7, 5, 0, 1, 2, 3, 4, 5, 6, 7, 9], [7, 9]), ([8, 10, 0, 1, 2, 3, 4, 5, 6, 7, 8, 9, 10], [8])])
noncomputable def laws_FnPatchImage.B8 : List Nat := [0, 0, 0, 0, 12, 31, 63, 127, 127, 0, 767, 2047]
theorem laws_FnPatchImage.tab8 : rtab .any (opsOf Try.f10 8) = laws_FnPatchImage.T8 := by kernel_rfl
theorem laws_FnPatchImage.bits8 : waitsOk laws_FnPatchImage.T8.2 laws_FnPatchImage.B8 = true := by kernel_rfl
theorem laws_FnPatchImage.calls (k : Nat) (A0 : Option Addr) (c0 : Nat) (l0 : List Int) (r : Bool) (w : World) (hr0 : Kd.C (Kd.int .u8) w A0 l0.length l0) (hc0 : l0.length ≤ c0) (h : laws_FnPatchImage.f k l0 = some r) (hrt : r = true) :
  Calls Try.prog 10 #[.slice A0 l0.length c0] w fun e w' => e = .returned (.bool r) ∧ Below w.heap.size w w' := by
 have HRT := mk hrt
 clear hrt
 have hu28 := Try.underlying28
 have HR0 := mk hr0
 have HC0 := mk hc0
 clear hr0 hc0
 have HB := mk (Below.refl w.heap.size w)
 have H : (if (l0.length : Int) > 1048576 then (some true) else ((spec_DrawPatchImage.f k l0).bind fun btz0 => ((impl_PatchImage.f k btz0.1 btz0.2.1 btz0.2.2.1 btz0.2.2.2.1 btz0.2.2.2.2.1 btz0.2.2.2.2.2.1 btz0.2.2.2.2.2.2.1 btz0.2.2.2.2.2.2.2.1 btz0.2.2.2.2.2.2.2.2).bind fun btz2 => ((spec_PatchImage.f k btz0.1 btz0.2.1 btz0.2.2.1 btz0.2.2.2.1 btz0.2.2.2.2.1 btz0.2.2.2.2.2.1 btz0.2.2.2.2.2.2.1 btz0.2.2.2.2.2.2.2.1 btz0.2.2.2.2.2.2.2.2).bind fun btz1 => ((laws_equalImage.f k btz2.1 btz2.2.1 btz2.2.2.1 btz2.2.2.2.1 btz1.1 btz1.2.1 btz1.2.2.1 btz1.2.2.2.1).bind fun tz29 => (if tz29 = true then (if (btz2.2.2.2.2 != btz1.2.2.2.2) = true then (laws_FnPatchImage.j0 k btz2.2.2.2.2 btz1.2.2.2.2 true btz0.1 btz0.2.1 btz0.2.2.1 btz0.2.2.2.1 btz0.2.2.2.2.1 btz0.2.2.2.2.2.1 btz0.2.2.2.2.2.2.1 btz0.2.2.2.2.2.2.2.1 btz2.1 btz2.2.1 btz2.2.2.1 btz2.2.2.2.1 btz1.1 btz1.2.1 btz1.2.2.1 btz1.2.2.2.1) else (laws_FnPatchImage.j0 k btz2.2.2.2.2 btz1.2.2.2.2 (!btz2.2.2.2.2) btz0.1 btz0.2.1 btz0.2.2.1 btz0.2.2.2.1 btz0.2.2.2.2.1 btz0.2.2.2.2.2.1 btz0.2.2.2.2.2.2.1 btz0.2.2.2.2.2.2.2.1 btz2.1 btz2.2.1 btz2.2.2.1 btz2.2.2.2.1 btz1.1 btz1.2.1 btz1.2.2.1 btz1.2.2.2.1)) else (laws_FnPatchImage.j0 k btz2.2.2.2.2 btz1.2.2.2.2 true btz0.1 btz0.2.1 btz0.2.2.1 btz0.2.2.2.1 btz0.2.2.2.2.1 btz0.2.2.2.2.2.1 btz0.2.2.2.2.2.2.1 btz0.2.2.2.2.2.2.2.1 btz2.1 btz2.2.1 btz2.2.2.1 btz2.2.2.2.1 btz1.1 btz1.2.1 btz1.2.2.1 btz1.2.2.2.1))))))) = some r := h
 clear h
 by_cases c2 : (l0.length : Int) > 1048576
 ·rw [if_pos c2] at H
  have c2b0 : decide (1048576 < (l0.length : Int)) = true := decide_eq_true c2
  have c2b1 : decide (1048576 < l0.length) = true := decide_eq_true (by omega)
  clear c2
  obtain rfl := Option.some.inj H
  go_enter Try.func10, Try.ntmps10
  go_wp2
  go_ret
  exact ⟨by rfl, by exact HB.out⟩
 rw [if_neg c2] at H
 have c2b0 : decide (1048576 < (l0.length : Int)) = false := decide_eq_false c2
 have c2b1 : decide (1048576 < l0.length) = false := decide_eq_false (by omega)
 clear c2
 replace H := Option.bind_eq_some_iff.mp H
 obtain ⟨⟨tz2, tz4, tz6, tz0, tz7, tz8, tz9, tz1, tz30⟩, A30, H⟩ := H
 replace H : ((impl_PatchImage.f k tz2 tz4 tz6 tz0 tz7 tz8 tz9 tz1 tz30).bind fun btz2 => ((spec_PatchImage.f k tz2 tz4 tz6 tz0 tz7 tz8 tz9 tz1 tz30).bind fun btz1 => ((laws_equalImage.f k btz2.1 btz2.2.1 btz2.2.2.1 btz2.2.2.2.1 btz1.1 btz1.2.1 btz1.2.2.1 btz1.2.2.2.1).bind fun tz29 => (if tz29 = true then (if (btz2.2.2.2.2 != btz1.2.2.2.2) = true then (laws_FnPatchImage.j0 k btz2.2.2.2.2 btz1.2.2.2.2 true tz2 tz4 tz6 tz0 tz7 tz8 tz9 tz1 btz2.1 btz2.2.1 btz2.2.2.1 btz2.2.2.2.1 btz1.1 btz1.2.1 btz1.2.2.1 btz1.2.2.2.1) else (laws_FnPatchImage.j0 k btz2.2.2.2.2 btz1.2.2.2.2 (!btz2.2.2.2.2) tz2 tz4 tz6 tz0 tz7 tz8 tz9 tz1 btz2.1 btz2.2.1 btz2.2.2.1 btz2.2.2.2.1 btz1.1 btz1.2.1 btz1.2.2.1 btz1.2.2.2.1)) else (laws_FnPatchImage.j0 k btz2.2.2.2.2 btz1.2.2.2.2 true tz2 tz4 tz6 tz0 tz7 tz8 tz9 tz1 btz2.1 btz2.2.1 btz2.2.2.1 btz2.2.2.2.1 btz1.1 btz1.2.1 btz1.2.2.1 btz1.2.2.2.1))))) = some r := H
 have A3 := mk A30
 clear A30
 replace H := Option.bind_eq_some_iff.mp H
 obtain ⟨⟨tz13, tz14, tz15, tz5, tz16⟩, A40, H⟩ := H
 replace H : ((spec_PatchImage.f k tz2 tz4 tz6 tz0 tz7 tz8 tz9 tz1 tz30).bind fun btz1 => ((laws_equalImage.f k tz13 tz14 tz15 tz5 btz1.1 btz1.2.1 btz1.2.2.1 btz1.2.2.2.1).bind fun tz29 => (if tz29 = true then (if (tz16 != btz1.2.2.2.2) = true then (laws_FnPatchImage.j0 k tz16 btz1.2.2.2.2 true tz2 tz4 tz6 tz0 tz7 tz8 tz9 tz1 tz13 tz14 tz15 tz5 btz1.1 btz1.2.1 btz1.2.2.1 btz1.2.2.2.1) else (laws_FnPatchImage.j0 k tz16 btz1.2.2.2.2 (!tz16) tz2 tz4 tz6 tz0 tz7 tz8 tz9 tz1 tz13 tz14 tz15 tz5 btz1.1 btz1.2.1 btz1.2.2.1 btz1.2.2.2.1)) else (laws_FnPatchImage.j0 k tz16 btz1.2.2.2.2 true tz2 tz4 tz6 tz0 tz7 tz8 tz9 tz1 tz13 tz14 tz15 tz5 btz1.1 btz1.2.1 btz1.2.2.1 btz1.2.2.2.1)))) = some r := H
 have A4 := mk A40
 clear A40
 replace H := Option.bind_eq_some_iff.mp H
 obtain ⟨⟨tz10, tz11, tz12, tz3, tz21⟩, A50, H⟩ := H
 replace H : ((laws_equalImage.f k tz13 tz14 tz15 tz5 tz10 tz11 tz12 tz3).bind fun tz29 => (if tz29 = true then (if (tz16 != tz21) = true then (laws_FnPatchImage.j0 k tz16 tz21 true tz2 tz4 tz6 tz0 tz7 tz8 tz9 tz1 tz13 tz14 tz15 tz5 tz10 tz11 tz12 tz3) else (laws_FnPatchImage.j0 k tz16 tz21 (!tz16) tz2 tz4 tz6 tz0 tz7 tz8 tz9 tz1 tz13 tz14 tz15 tz5 tz10 tz11 tz12 tz3)) else (laws_FnPatchImage.j0 k tz16 tz21 true tz2 tz4 tz6 tz0 tz7 tz8 tz9 tz1 tz13 tz14 tz15 tz5 tz10 tz11 tz12 tz3))) = some r := H
 have A5 := mk A50
 clear A50
 have HC6 := mk H
 clear H
 go_enter Try.func10, Try.ntmps10
 go_upto_region 6 with (first | ((with_reducible refine gate_callee (f := 40) rfl ?_); refine goesL_ (some 19) rfl rfl Try.func40 (by kernel_rfl) rfl #[.slice A0 l0.length c0] rfl (by (try simp only [bitvec_to_nat]); rfl) ?_; (with_reducible refine (spec_DrawPatchImage.calls k _ _ l0 tz2 tz4 tz6 tz0 tz7 tz8 tz9 tz1 tz30 _ ?side1 ?side2 A3.out).mono ?_); (case side1 => repeat (exact HR0.out)); (case side2 => exact HC0.out); rintro e w7 ⟨vz2, vz3, vz4, rfl, ho0, ho1, ho2, hb⟩; refine ⟨_, rfl, ?_⟩; have HOz5 := mk (Kd.Q_lower ho0 (below_size HB.out)); have HOz6 := mk (Kd.Q_lower ho1 (below_size HB.out)); have HOz7 := mk (Kd.R_lower ho2 (below_size HB.out)); replace HB := mk (below_step HB.out hb); (try clear hb); (try clear ho0); (try clear ho1); (try clear ho2)) | ((with_reducible refine gate_dst (N := 3) rfl ?_); refine box_event (by rfl) (N := 3) (by rfl) (cs := #[.int .i64 0, .int .i64 0, .int .i64 0, .slice none 0 0]) (t := 28) (by go_simp; done) ?_; intro gbz2 hg w8 hbox hb; replace HOz5 := mk (Kd.Q_below HOz5.out hb); replace HOz6 := mk (Kd.Q_below HOz6.out hb); replace HOz7 := mk (Kd.R_below HOz7.out hb); have BKz0 := mk (hbox); have GWz1 := mk ((by rw [hg]; exact (below_size HB.out) : w.heap.size ≤ gbz2)); have GEz2 := mk ((by rw [hg]; exact (below_size HB.out) : w.heap.size ≤ gbz2)); replace HB := mk (below_step HB.out hb); clear hb hbox hg) | ((with_reducible refine gate_dst (N := 4) rfl ?_); refine box_event (by rfl) (N := 4) (by rfl) (cs := #[.int .i64 0, .int .i64 0, .int .i64 0, .slice none 0 0]) (t := 28) (by go_simp; done) ?_; intro gbz3 hg w9 hbox hb; replace HOz5 := mk (Kd.Q_below HOz5.out hb); replace HOz6 := mk (Kd.Q_below HOz6.out hb); replace HOz7 := mk (Kd.R_below HOz7.out hb); have BKz1 := mk (hbox); have GWz2 := mk ((by rw [hg]; exact (below_size HB.out) : w.heap.size ≤ gbz3)); have GEz3 := mk ((by rw [hg]; exact (below_size HB.out) : w.heap.size ≤ gbz3)); replace HB := mk (below_step HB.out hb); have NBz13 := mk ((by rw [hg]; exact Nat.ne_of_lt (blk_lt BKz0.out) : gbz2 ≠ gbz3)); have NBz14 := mk ((by rw [hg]; exact Nat.ne_of_gt (blk_lt BKz0.out) : gbz3 ≠ gbz2)); replace BKz0 := mk (blk_below BKz0.out hb); clear hb hbox hg; have hnb10 := NBz13.out; have hnc10 := NBz14.out; obtain ⟨hcz11_0, hcz11_1, hcz11_2, hcz11_3, hfz11_0, hfz11_1, hfz11_2, hfz11_3⟩ := c4 BKz0.out; obtain ⟨Ao12, co12, eo12, _⟩ := Kd.Q_slice HOz5.out; subst eo12; obtain ⟨hcz13_0, hcz13_1, hcz13_2, hcz13_3, hfz13_0, hfz13_1, hfz13_2, hfz13_3⟩ := c4 BKz1.out; obtain ⟨Ao14, co14, eo14, _⟩ := Kd.Q_slice HOz6.out; subst eo14; obtain ⟨Ao15, co15, eo15⟩ := Kd.R_slice HOz7.out; subst eo15) | ((with_reducible refine gate_callee (f := 41) rfl ?_); refine goesL_ (some 27) rfl rfl Try.func41 (by kernel_rfl) rfl #[.agg #[.int .i64 tz2, .int .i64 tz4, .int .i64 tz6, .slice Ao12 tz0.length co12], .agg #[.int .i64 tz7, .int .i64 tz8, .int .i64 tz9, .slice Ao14 tz1.length co14], .slice Ao15 tz30.length co15] rfl (by (try simp only [bitvec_to_nat]); rfl) ?_; (with_reducible refine (impl_PatchImage.calls k tz2 tz4 tz6 _ _ tz0 tz7 tz8 tz9 _ _ tz1 _ _ tz30 tz13 tz14 tz15 tz5 tz16 _ ?side1 ?side2 ?side3 ?side4 ?side5 ?side6 A4.out).mono ?_); (case side1 => refine (Kd.Q_reads' (e := 3) (base := w.heap.size) (ok := fun k_ => some k_ ≠ (.slice Ao14 tz1.length co14 : Value).ownBlock) (n := tz0.length) (c := co12) ?_).2.2; exact (by exact (Kd.Q_mono (Kd.Q_mono (Q4 (Kd.Q_far (p := ⟨gbz2, 3, none⟩) (Kd.Q_far (p := ⟨gbz2, 2, none⟩) (Kd.Q_far (p := ⟨gbz2, 1, none⟩) (Kd.Q_far (p := ⟨gbz2, 0, none⟩) (Kd.Q_types (Kd.Q_types HOz5.out BKz0.out (by decide)) BKz1.out (by decide)) (fun _ hk => hk.1.2) (.int .i64 tz2)) (fun _ hk => hk.1.2) (.int .i64 tz4)) (fun _ hk => hk.1.2) (.int .i64 tz6)) (fun _ hk => hk.1.2) (.slice Ao12 tz0.length co12)) (.int .i64 tz7) (.int .i64 tz8) (.int .i64 tz9) (.slice Ao14 tz1.length co14)) (fun _ h_ => h_.1)) (fun _ h_ => h_.1)))); (case side2 => exact (Kd.Q_reads' HOz5.out).2.1); (case side3 => refine (Kd.Q_reads' (e := 3) (base := w.heap.size) (ok := fun k_ => some k_ ≠ (.slice Ao12 tz0.length co12 : Value).ownBlock) (n := tz1.length) (c := co14) ?_).2.2; exact (by exact (Kd.Q_mono (Kd.Q_mono (Q4 (Kd.Q_far (p := ⟨gbz2, 3, none⟩) (Kd.Q_far (p := ⟨gbz2, 2, none⟩) (Kd.Q_far (p := ⟨gbz2, 1, none⟩) (Kd.Q_far (p := ⟨gbz2, 0, none⟩) (Kd.Q_types (Kd.Q_types HOz6.out BKz0.out (by decide)) BKz1.out (by decide)) (fun _ hk => hk.1.2) (.int .i64 tz2)) (fun _ hk => hk.1.2) (.int .i64 tz4)) (fun _ hk => hk.1.2) (.int .i64 tz6)) (fun _ hk => hk.1.2) (.slice Ao12 tz0.length co12)) (.int .i64 tz7) (.int .i64 tz8) (.int .i64 tz9) (.slice Ao14 tz1.length co14)) (fun _ h_ => h_.1)) (fun _ h_ => h_.1)))); (case side4 => exact (Kd.Q_reads' HOz6.out).2.1); (case side5 => refine (Kd.R_reads' (e := 60) (base := w.heap.size) (ok := fun k_ => True) (n := tz30.length) (c := co15) ?_).2.2; exact (by exact (Kd.R_mono (Kd.R_mono (R4 (Kd.R_far (p := ⟨gbz2, 3, none⟩) (Kd.R_far (p := ⟨gbz2, 2, none⟩) (Kd.R_far (p := ⟨gbz2, 1, none⟩) (Kd.R_far (p := ⟨gbz2, 0, none⟩) (Kd.R_types (Kd.R_types HOz7.out BKz0.out (by decide)) BKz1.out (by decide)) (fun _ hk => hk.1.2) (.int .i64 tz2)) (fun _ hk => hk.1.2) (.int .i64 tz4)) (fun _ hk => hk.1.2) (.int .i64 tz6)) (fun _ hk => hk.1.2) (.slice Ao12 tz0.length co12)) (.int .i64 tz7) (.int .i64 tz8) (.int .i64 tz9) (.slice Ao14 tz1.length co14)) (fun _ h_ => h_.1)) (fun _ h_ => h_.1)))); (case side6 => exact (Kd.R_reads' HOz7.out).2.1); rintro e w16 ⟨vz5, rfl, ho0, hb⟩; refine ⟨_, rfl, ?_⟩; replace HOz7 := mk (Kd.R_below (by exact (Kd.R_mono (Kd.R_mono (R4 (Kd.R_far (p := ⟨gbz2, 3, none⟩) (Kd.R_far (p := ⟨gbz2, 2, none⟩) (Kd.R_far (p := ⟨gbz2, 1, none⟩) (Kd.R_far (p := ⟨gbz2, 0, none⟩) (Kd.R_types (Kd.R_types HOz7.out BKz0.out (by decide)) BKz1.out (by decide)) (fun _ hk => hk.1.2) (.int .i64 tz2)) (fun _ hk => hk.1.2) (.int .i64 tz4)) (fun _ hk => hk.1.2) (.int .i64 tz6)) (fun _ hk => hk.1.2) (.slice Ao12 tz0.length co12)) (.int .i64 tz7) (.int .i64 tz8) (.int .i64 tz9) (.slice Ao14 tz1.length co14)) (fun _ h_ => h_.1)) (fun _ h_ => h_.1))) hb); have HOz8 := mk (Kd.R_lower (Kd.R_new' (Kd.R_new' ho0 (Kd.Q_lt (by exact (Kd.Q_mono (Kd.Q_mono (Q4 (Kd.Q_far (p := ⟨gbz2, 3, none⟩) (Kd.Q_far (p := ⟨gbz2, 2, none⟩) (Kd.Q_far (p := ⟨gbz2, 1, none⟩) (Kd.Q_far (p := ⟨gbz2, 0, none⟩) (Kd.Q_types (Kd.Q_types HOz5.out BKz0.out (by decide)) BKz1.out (by decide)) (fun _ hk => hk.1.2) (.int .i64 tz2)) (fun _ hk => hk.1.2) (.int .i64 tz4)) (fun _ hk => hk.1.2) (.int .i64 tz6)) (fun _ hk => hk.1.2) (.slice Ao12 tz0.length co12)) (.int .i64 tz7) (.int .i64 tz8) (.int .i64 tz9) (.slice Ao14 tz1.length co14)) (fun _ h_ => h_.1)) (fun _ h_ => h_.1))))) (Kd.Q_lt (by exact (Kd.Q_mono (Kd.Q_mono (Q4 (Kd.Q_far (p := ⟨gbz2, 3, none⟩) (Kd.Q_far (p := ⟨gbz2, 2, none⟩) (Kd.Q_far (p := ⟨gbz2, 1, none⟩) (Kd.Q_far (p := ⟨gbz2, 0, none⟩) (Kd.Q_types (Kd.Q_types HOz6.out BKz0.out (by decide)) BKz1.out (by decide)) (fun _ hk => hk.1.2) (.int .i64 tz2)) (fun _ hk => hk.1.2) (.int .i64 tz4)) (fun _ hk => hk.1.2) (.int .i64 tz6)) (fun _ hk => hk.1.2) (.slice Ao12 tz0.length co12)) (.int .i64 tz7) (.int .i64 tz8) (.int .i64 tz9) (.slice Ao14 tz1.length co14)) (fun _ h_ => h_.1)) (fun _ h_ => h_.1))))) (below_size (by repeat (with_reducible first | exact HB.out | refine below_set ?_ GEz2.out | refine below_set ?_ GEz3.out)))); replace HOz5 := mk (Kd.Q_elder' (by exact (Kd.Q_mono (Kd.Q_mono (Q4 (Kd.Q_far (p := ⟨gbz2, 3, none⟩) (Kd.Q_far (p := ⟨gbz2, 2, none⟩) (Kd.Q_far (p := ⟨gbz2, 1, none⟩) (Kd.Q_far (p := ⟨gbz2, 0, none⟩) (Kd.Q_types (Kd.Q_types HOz5.out BKz0.out (by decide)) BKz1.out (by decide)) (fun _ hk => hk.1.2) (.int .i64 tz2)) (fun _ hk => hk.1.2) (.int .i64 tz4)) (fun _ hk => hk.1.2) (.int .i64 tz6)) (fun _ hk => hk.1.2) (.slice Ao12 tz0.length co12)) (.int .i64 tz7) (.int .i64 tz8) (.int .i64 tz9) (.slice Ao14 tz1.length co14)) (fun _ h_ => h_.1)) (fun _ h_ => h_.1))) (Kd.R_base ho0) hb); replace HOz6 := mk (Kd.Q_elder' (by exact (Kd.Q_mono (Kd.Q_mono (Q4 (Kd.Q_far (p := ⟨gbz2, 3, none⟩) (Kd.Q_far (p := ⟨gbz2, 2, none⟩) (Kd.Q_far (p := ⟨gbz2, 1, none⟩) (Kd.Q_far (p := ⟨gbz2, 0, none⟩) (Kd.Q_types (Kd.Q_types HOz6.out BKz0.out (by decide)) BKz1.out (by decide)) (fun _ hk => hk.1.2) (.int .i64 tz2)) (fun _ hk => hk.1.2) (.int .i64 tz4)) (fun _ hk => hk.1.2) (.int .i64 tz6)) (fun _ hk => hk.1.2) (.slice Ao12 tz0.length co12)) (.int .i64 tz7) (.int .i64 tz8) (.int .i64 tz9) (.slice Ao14 tz1.length co14)) (fun _ h_ => h_.1)) (fun _ h_ => h_.1))) (Kd.R_base ho0) hb); replace BKz0 := mk (blk_below (g := gbz2) (o := .cells #[.int .i64 tz2, .int .i64 tz4, .int .i64 tz6, .slice Ao12 tz0.length co12] 28 (0, 0)) (by refine f4 ?_ NBz13.out; refine p4 (.int .i64 0) (.int .i64 0) (.int .i64 0) (.slice none 0 0) ?_; exact BKz0.out) hb); replace BKz1 := mk (blk_below (g := gbz3) (o := .cells #[.int .i64 tz7, .int .i64 tz8, .int .i64 tz9, .slice Ao14 tz1.length co14] 28 (0, 0)) (by refine p4 (.int .i64 0) (.int .i64 0) (.int .i64 0) (.slice none 0 0) ?_; refine f4 ?_ NBz14.out; exact BKz1.out) hb); replace HB := mk (below_step (by repeat (with_reducible first | exact HB.out | refine below_set ?_ GEz2.out | refine below_set ?_ GEz3.out)) hb); (try clear hb); (try clear ho0)) | ((with_reducible refine gate_dst (N := 6) rfl ?_); refine box_event (by rfl) (N := 6) (by rfl) (cs := #[.int .i64 0, .int .i64 0, .int .i64 0, .slice none 0 0]) (t := 28) (by go_simp; done) ?_; intro gbz4 hg w17 hbox hb; replace HOz5 := mk (Kd.Q_below HOz5.out hb); replace HOz6 := mk (Kd.Q_below HOz6.out hb); replace HOz7 := mk (Kd.R_below HOz7.out hb); replace HOz8 := mk (Kd.R_below HOz8.out hb); have BKz3 := mk (hbox); have GWz3 := mk ((by rw [hg]; exact (below_size HB.out) : w.heap.size ≤ gbz4)); have GEz4 := mk ((by rw [hg]; exact (below_size HB.out) : w.heap.size ≤ gbz4)); replace HB := mk (below_step HB.out hb); have NBz11 := mk ((by rw [hg]; exact Nat.ne_of_lt (blk_lt BKz0.out) : gbz2 ≠ gbz4)); have NBz15 := mk ((by rw [hg]; exact Nat.ne_of_gt (blk_lt BKz0.out) : gbz4 ≠ gbz2)); replace BKz0 := mk (blk_below BKz0.out hb); have NBz12 := mk ((by rw [hg]; exact Nat.ne_of_lt (blk_lt BKz1.out) : gbz3 ≠ gbz4)); have NBz16 := mk ((by rw [hg]; exact Nat.ne_of_gt (blk_lt BKz1.out) : gbz4 ≠ gbz3)); replace BKz1 := mk (blk_below BKz1.out hb); clear hb hbox hg; have hnb18 := NBz15.out; have hnc18 := NBz11.out; have hnb19 := NBz16.out; have hnc19 := NBz12.out; obtain ⟨hcz20_0, hcz20_1, hcz20_2, hcz20_3, hfz20_0, hfz20_1, hfz20_2, hfz20_3⟩ := c4 BKz3.out; obtain ⟨Ao21, co21, eo21⟩ := Kd.R_slice HOz8.out; subst eo21; obtain ⟨hcz22_0, hcz22_1, hcz22_2, hcz22_3, hfz22_0, hfz22_1, hfz22_2, hfz22_3⟩ := c4 BKz0.out; obtain ⟨hcz23_0, hcz23_1, hcz23_2, hcz23_3, hfz23_0, hfz23_1, hfz23_2, -⟩ := c4 BKz1.out; have hfz23_3 := blk_frozen BKz1.out 3) | ((with_reducible refine gate_callee (f := 42) rfl ?_); refine goesL_ (some 34) rfl rfl Try.func42 (by kernel_rfl) rfl #[.agg #[.int .i64 tz2, .int .i64 tz4, .int .i64 tz6, .slice Ao12 tz0.length co12], .agg #[.int .i64 tz7, .int .i64 tz8, .int .i64 tz9, .slice Ao14 tz1.length co14], .slice Ao15 tz30.length co15] rfl (by (try simp only [bitvec_to_nat]); rfl) ?_; (with_reducible refine (spec_PatchImage.calls k tz2 tz4 tz6 _ _ tz0 tz7 tz8 tz9 _ _ tz1 _ _ tz30 tz10 tz11 tz12 tz3 tz21 _ ?side1 ?side2 ?side3 ?side4 ?side5 ?side6 A5.out).mono ?_); (case side1 => refine (Kd.Q_reads' (e := 3) (base := w.heap.size) (ok := fun k_ => (some k_ ≠ (.slice Ao14 tz1.length co14 : Value).ownBlock ∧ some k_ ≠ (.slice Ao21 tz5.length co21 : Value).ownBlock)) (n := tz0.length) (c := co12) ?_).2.2; exact (by exact (Kd.Q_mono (Q4 (Kd.Q_types HOz5.out BKz3.out (by decide)) (.int .i64 tz13) (.int .i64 tz14) (.int .i64 tz15) (.slice Ao21 tz5.length co21)) (fun _ h_ => h_.1)))); (case side2 => exact (Kd.Q_reads' HOz5.out).2.1); (case side3 => refine (Kd.Q_reads' (e := 3) (base := w.heap.size) (ok := fun k_ => (some k_ ≠ (.slice Ao12 tz0.length co12 : Value).ownBlock ∧ some k_ ≠ (.slice Ao21 tz5.length co21 : Value).ownBlock)) (n := tz1.length) (c := co14) ?_).2.2; exact (by exact (Kd.Q_mono (Q4 (Kd.Q_types HOz6.out BKz3.out (by decide)) (.int .i64 tz13) (.int .i64 tz14) (.int .i64 tz15) (.slice Ao21 tz5.length co21)) (fun _ h_ => h_.1)))); (case side4 => exact (Kd.Q_reads' HOz6.out).2.1); (case side5 => refine (Kd.R_reads' (e := 60) (base := w.heap.size) (ok := fun k_ => True) (n := tz30.length) (c := co15) ?_).2.2; exact (by exact (Kd.R_mono (R4 (Kd.R_types HOz7.out BKz3.out (by decide)) (.int .i64 tz13) (.int .i64 tz14) (.int .i64 tz15) (.slice Ao21 tz5.length co21)) (fun _ h_ => h_.1)))); (case side6 => exact (Kd.R_reads' HOz7.out).2.1); rintro e w24 ⟨vz6, rfl, ho0, hb⟩; refine ⟨_, rfl, ?_⟩; replace HOz7 := mk (Kd.R_below (by exact (Kd.R_mono (R4 (Kd.R_types HOz7.out BKz3.out (by decide)) (.int .i64 tz13) (.int .i64 tz14) (.int .i64 tz15) (.slice Ao21 tz5.length co21)) (fun _ h_ => h_.1))) hb); have HOz10 := mk (Kd.R_lower (Kd.R_new' (Kd.R_new' (Kd.R_new' ho0 (Kd.Q_lt (by exact (Kd.Q_mono (Q4 (Kd.Q_types HOz5.out BKz3.out (by decide)) (.int .i64 tz13) (.int .i64 tz14) (.int .i64 tz15) (.slice Ao21 tz5.length co21)) (fun _ h_ => h_.1))))) (Kd.Q_lt (by exact (Kd.Q_mono (Q4 (Kd.Q_types HOz6.out BKz3.out (by decide)) (.int .i64 tz13) (.int .i64 tz14) (.int .i64 tz15) (.slice Ao21 tz5.length co21)) (fun _ h_ => h_.1))))) (Kd.R_lt (by exact (Kd.R_mono (R4 (Kd.R_types HOz8.out BKz3.out (by decide)) (.int .i64 tz13) (.int .i64 tz14) (.int .i64 tz15) (.slice Ao21 tz5.length co21)) (fun _ h_ => h_.1))))) (below_size (by repeat (with_reducible first | exact HB.out | refine below_set ?_ GEz4.out)))); replace HOz5 := mk (Kd.Q_elder' (by exact (Kd.Q_mono (Q4 (Kd.Q_types HOz5.out BKz3.out (by decide)) (.int .i64 tz13) (.int .i64 tz14) (.int .i64 tz15) (.slice Ao21 tz5.length co21)) (fun _ h_ => h_.1))) (Kd.R_base ho0) hb); replace HOz6 := mk (Kd.Q_elder' (by exact (Kd.Q_mono (Q4 (Kd.Q_types HOz6.out BKz3.out (by decide)) (.int .i64 tz13) (.int .i64 tz14) (.int .i64 tz15) (.slice Ao21 tz5.length co21)) (fun _ h_ => h_.1))) (Kd.R_base ho0) hb); replace HOz8 := mk (Kd.R_elder' (by exact (Kd.R_mono (R4 (Kd.R_types HOz8.out BKz3.out (by decide)) (.int .i64 tz13) (.int .i64 tz14) (.int .i64 tz15) (.slice Ao21 tz5.length co21)) (fun _ h_ => h_.1))) (Kd.R_base ho0) hb); replace BKz0 := mk (blk_below (g := gbz2) (o := .cells #[.int .i64 tz2, .int .i64 tz4, .int .i64 tz6, .slice Ao12 tz0.length co12] 28 (0, 0)) (by refine f4 ?_ NBz11.out; exact BKz0.out) hb); replace BKz1 := mk (blk_below (g := gbz3) (o := .cells #[.int .i64 tz7, .int .i64 tz8, .int .i64 tz9, .slice Ao14 tz1.length co14] 28 (0, 0)) (by refine f4 ?_ NBz12.out; exact BKz1.out) hb); replace BKz3 := mk (blk_below (g := gbz4) (o := .cells #[.int .i64 tz13, .int .i64 tz14, .int .i64 tz15, .slice Ao21 tz5.length co21] 28 (0, 0)) (by refine p4 (.int .i64 0) (.int .i64 0) (.int .i64 0) (.slice none 0 0) ?_; exact BKz3.out) hb); replace HB := mk (below_step (by repeat (with_reducible first | exact HB.out | refine below_set ?_ GEz4.out)) hb); (try clear hb); (try clear ho0)) | ((with_reducible refine gate_dst (N := 8) rfl ?_); refine box_event (by rfl) (N := 8) (by rfl) (cs := #[.int .i64 0, .int .i64 0, .int .i64 0, .slice none 0 0]) (t := 28) (by go_simp; done) ?_; intro gbz1 hg w25 hbox hb; replace HOz5 := mk (Kd.Q_below HOz5.out hb); replace HOz6 := mk (Kd.Q_below HOz6.out hb); replace HOz7 := mk (Kd.R_below HOz7.out hb); replace HOz8 := mk (Kd.R_below HOz8.out hb); replace HOz10 := mk (Kd.R_below HOz10.out hb); have BKz2 := mk (hbox); have GWz4 := mk ((by rw [hg]; exact (below_size HB.out) : w.heap.size ≤ gbz1)); have GEz1 := mk ((by rw [hg]; exact (below_size HB.out) : w.heap.size ≤ gbz1)); replace HB := mk (below_step HB.out hb); have NBz2 := mk ((by rw [hg]; exact Nat.ne_of_lt (blk_lt BKz0.out) : gbz2 ≠ gbz1)); have NBz17 := mk ((by rw [hg]; exact Nat.ne_of_gt (blk_lt BKz0.out) : gbz1 ≠ gbz2)); replace BKz0 := mk (blk_below BKz0.out hb); have NBz3 := mk ((by rw [hg]; exact Nat.ne_of_lt (blk_lt BKz1.out) : gbz3 ≠ gbz1)); have NBz18 := mk ((by rw [hg]; exact Nat.ne_of_gt (blk_lt BKz1.out) : gbz1 ≠ gbz3)); replace BKz1 := mk (blk_below BKz1.out hb); have NBz4 := mk ((by rw [hg]; exact Nat.ne_of_lt (blk_lt BKz3.out) : gbz4 ≠ gbz1)); have NBz19 := mk ((by rw [hg]; exact Nat.ne_of_gt (blk_lt BKz3.out) : gbz1 ≠ gbz4)); replace BKz3 := mk (blk_below BKz3.out hb); clear hb hbox hg; have hnb26 := NBz17.out; have hnc26 := NBz2.out; have hnb27 := NBz18.out; have hnc27 := NBz3.out; have hnb28 := NBz19.out; have hnc28 := NBz4.out; obtain ⟨hcz29_0, hcz29_1, hcz29_2, hcz29_3, hfz29_0, hfz29_1, hfz29_2, hfz29_3⟩ := c4 BKz2.out; obtain ⟨Ao30, co30, eo30⟩ := Kd.R_slice HOz10.out; subst eo30))
 go_cut [49] (fun v49 wc => ∃ (kq : Nat) (x49_5 : Bool), v49 = .bool x49_5 ∧ Aside0 (laws_FnPatchImage.j0 kq tz16 tz21 x49_5 tz2 tz4 tz6 tz0 tz7 tz8 tz9 tz1 tz13 tz14 tz15 tz5 tz10 tz11 tz12 tz3 = some r) ∧ Aside0 (kq ≤ k) ∧ Aside0 (Kd.Q (Kd.int .i64) 3 wc w.heap.size (fun k_ => some k_ ≠ ((.slice Ao14 tz1.length co14) : Value).ownBlock ∧ some k_ ≠ ((.slice Ao21 tz5.length co21) : Value).ownBlock ∧ some k_ ≠ ((.slice Ao30 tz3.length co30) : Value).ownBlock) (.slice Ao12 tz0.length co12) tz0) ∧ Aside0 (Kd.Q (Kd.int .i64) 3 wc w.heap.size (fun k_ => some k_ ≠ ((.slice Ao12 tz0.length co12) : Value).ownBlock ∧ some k_ ≠ ((.slice Ao21 tz5.length co21) : Value).ownBlock ∧ some k_ ≠ ((.slice Ao30 tz3.length co30) : Value).ownBlock) (.slice Ao14 tz1.length co14) tz1) ∧ Aside0 (Kd.Q (Kd.int .i64) 3 wc w.heap.size (fun k_ => some k_ ≠ ((.slice Ao12 tz0.length co12) : Value).ownBlock ∧ some k_ ≠ ((.slice Ao14 tz1.length co14) : Value).ownBlock ∧ some k_ ≠ ((.slice Ao30 tz3.length co30) : Value).ownBlock) (.slice Ao21 tz5.length co21) tz5) ∧ Aside0 (Kd.Q (Kd.int .i64) 3 wc w.heap.size (fun k_ => some k_ ≠ ((.slice Ao12 tz0.length co12) : Value).ownBlock ∧ some k_ ≠ ((.slice Ao14 tz1.length co14) : Value).ownBlock ∧ some k_ ≠ ((.slice Ao21 tz5.length co21) : Value).ownBlock) (.slice Ao30 tz3.length co30) tz3) ∧ Aside0 (wc.heap[gbz2]? = some (.cells #[.int .i64 tz2, .int .i64 tz4, .int .i64 tz6, (.slice Ao12 tz0.length co12)] 28 (0, 0))) ∧ Aside0 (wc.heap[gbz3]? = some (.cells #[.int .i64 tz7, .int .i64 tz8, .int .i64 tz9, (.slice Ao14 tz1.length co14)] 28 (0, 0))) ∧ Aside0 (wc.heap[gbz4]? = some (.cells #[.int .i64 tz13, .int .i64 tz14, .int .i64 tz15, (.slice Ao21 tz5.length co21)] 28 (0, 0))) ∧ Aside0 (wc.heap[gbz1]? = some (.cells #[.int .i64 tz10, .int .i64 tz11, .int .i64 tz12, (.slice Ao30 tz3.length co30)] 28 (0, 0))) ∧ Aside0 (Below w.heap.size w wc))
 case first =>
  have H := HC6.out
  clear HC6
  replace H := Option.bind_eq_some_iff.mp H
  obtain ⟨tz29, A310, H⟩ := H
  replace H : (if tz29 = true then (if (tz16 != tz21) = true then (laws_FnPatchImage.j0 k tz16 tz21 true tz2 tz4 tz6 tz0 tz7 tz8 tz9 tz1 tz13 tz14 tz15 tz5 tz10 tz11 tz12 tz3) else (laws_FnPatchImage.j0 k tz16 tz21 (!tz16) tz2 tz4 tz6 tz0 tz7 tz8 tz9 tz1 tz13 tz14 tz15 tz5 tz10 tz11 tz12 tz3)) else (laws_FnPatchImage.j0 k tz16 tz21 true tz2 tz4 tz6 tz0 tz7 tz8 tz9 tz1 tz13 tz14 tz15 tz5 tz10 tz11 tz12 tz3)) = some r := H
  have A31 := mk A310
  clear A310
  by_cases c32 : tz29 = true
  ·subst c32
   have H1 : (if (tz16 != tz21) = true then (laws_FnPatchImage.j0 k tz16 tz21 true tz2 tz4 tz6 tz0 tz7 tz8 tz9 tz1 tz13 tz14 tz15 tz5 tz10 tz11 tz12 tz3) else (laws_FnPatchImage.j0 k tz16 tz21 (!tz16) tz2 tz4 tz6 tz0 tz7 tz8 tz9 tz1 tz13 tz14 tz15 tz5 tz10 tz11 tz12 tz3)) = some r := by rw [if_pos rfl] at H; exact H
   clear H
   have H := H1
   clear H1
   by_cases c33 : (tz16 != tz21) = true
   ·rw [if_pos c33] at H
    have c33b0 : (tz16 != tz21) = true := c33
    (try (have c33b1 : decide (tz16 = tz21) = false := by simpa using c33))
    (try (have c33b2 : (tz16 == tz21) = false := by simpa using c33))
    (try (have c33b3 : ¬ (tz16 = tz21) := by simpa using c33))
    clear c33
    (skip)
    have H' := mk H
    clear H
    have hnb34 := NBz15.out
    have hnc34 := NBz11.out
    have hnb35 := NBz16.out
    have hnc35 := NBz12.out
    have hnb36 := NBz4.out
    have hnc36 := NBz19.out
    obtain ⟨hcz37_0, hcz37_1, hcz37_2, hcz37_3, hfz37_0, hfz37_1, hfz37_2, hfz37_3⟩ := c4 BKz3.out
    have hnb38 := NBz17.out
    have hnc38 := NBz2.out
    have hnb39 := NBz18.out
    have hnc39 := NBz3.out
    obtain ⟨hcz40_0, hcz40_1, hcz40_2, hcz40_3, hfz40_0, hfz40_1, hfz40_2, hfz40_3⟩ := c4 BKz2.out
    go_wp2_with (first | ((with_reducible refine gate_callee (f := 43) rfl ?_); refine goesL_ (some 39) rfl rfl Try.func43 (by kernel_rfl) rfl #[.agg #[.int .i64 tz13, .int .i64 tz14, .int .i64 tz15, .slice Ao21 tz5.length co21], .agg #[.int .i64 tz10, .int .i64 tz11, .int .i64 tz12, .slice Ao30 tz3.length co30]] rfl (by (try simp only [bitvec_to_nat]); rfl) ?_; (with_reducible refine (laws_equalImage.calls k tz13 tz14 tz15 _ _ tz5 tz10 tz11 tz12 _ _ tz3 true _ ?side1 ?side2 ?side3 ?side4 A31.out).mono ?_); (case side1 => refine (Kd.R_reads' (e := 3) (base := w.heap.size) (ok := fun k_ => (((True ∧ some k_ ≠ (.slice Ao12 tz0.length co12 : Value).ownBlock) ∧ some k_ ≠ (.slice Ao14 tz1.length co14 : Value).ownBlock) ∧ some k_ ≠ (.slice Ao30 tz3.length co30 : Value).ownBlock)) (n := tz5.length) (c := co21) ?_).2.2; exact (by exact (Kd.R_mono (R4 (Kd.R_types HOz8.out BKz2.out (by decide)) (.int .i64 tz10) (.int .i64 tz11) (.int .i64 tz12) (.slice Ao30 tz3.length co30)) (fun _ h_ => h_.1)))); (case side2 => exact (Kd.R_reads' HOz8.out).2.1); (case side3 => refine (Kd.R_reads' (e := 3) (base := w.heap.size) (ok := fun k_ => (((True ∧ some k_ ≠ (.slice Ao12 tz0.length co12 : Value).ownBlock) ∧ some k_ ≠ (.slice Ao14 tz1.length co14 : Value).ownBlock) ∧ some k_ ≠ (.slice Ao21 tz5.length co21 : Value).ownBlock)) (n := tz3.length) (c := co30) ?_).2.2; exact (by exact (Kd.R_mono (R4 (Kd.R_types HOz10.out BKz2.out (by decide)) (.int .i64 tz10) (.int .i64 tz11) (.int .i64 tz12) (.slice Ao30 tz3.length co30)) (fun _ h_ => h_.1)))); (case side4 => exact (Kd.R_reads' HOz10.out).2.1); rintro e w41 ⟨rfl, hb⟩; refine ⟨_, rfl, ?_⟩; replace HOz5 := mk (Kd.Q_below (by exact (Kd.Q_mono (Q4 (Kd.Q_types HOz5.out BKz2.out (by decide)) (.int .i64 tz10) (.int .i64 tz11) (.int .i64 tz12) (.slice Ao30 tz3.length co30)) (fun _ h_ => h_.1))) hb); replace HOz6 := mk (Kd.Q_below (by exact (Kd.Q_mono (Q4 (Kd.Q_types HOz6.out BKz2.out (by decide)) (.int .i64 tz10) (.int .i64 tz11) (.int .i64 tz12) (.slice Ao30 tz3.length co30)) (fun _ h_ => h_.1))) hb); replace HOz7 := mk (Kd.R_below (by exact (Kd.R_mono (R4 (Kd.R_types HOz7.out BKz2.out (by decide)) (.int .i64 tz10) (.int .i64 tz11) (.int .i64 tz12) (.slice Ao30 tz3.length co30)) (fun _ h_ => h_.1))) hb); replace HOz8 := mk (Kd.R_below (by exact (Kd.R_mono (R4 (Kd.R_types HOz8.out BKz2.out (by decide)) (.int .i64 tz10) (.int .i64 tz11) (.int .i64 tz12) (.slice Ao30 tz3.length co30)) (fun _ h_ => h_.1))) hb); replace HOz10 := mk (Kd.R_below (by exact (Kd.R_mono (R4 (Kd.R_types HOz10.out BKz2.out (by decide)) (.int .i64 tz10) (.int .i64 tz11) (.int .i64 tz12) (.slice Ao30 tz3.length co30)) (fun _ h_ => h_.1))) hb); replace BKz0 := mk (blk_below (g := gbz2) (o := .cells #[.int .i64 tz2, .int .i64 tz4, .int .i64 tz6, .slice Ao12 tz0.length co12] 28 (0, 0)) (by refine f4 ?_ NBz2.out; exact BKz0.out) hb); replace BKz1 := mk (blk_below (g := gbz3) (o := .cells #[.int .i64 tz7, .int .i64 tz8, .int .i64 tz9, .slice Ao14 tz1.length co14] 28 (0, 0)) (by refine f4 ?_ NBz3.out; exact BKz1.out) hb); replace BKz3 := mk (blk_below (g := gbz4) (o := .cells #[.int .i64 tz13, .int .i64 tz14, .int .i64 tz15, .slice Ao21 tz5.length co21] 28 (0, 0)) (by refine f4 ?_ NBz4.out; exact BKz3.out) hb); replace BKz2 := mk (blk_below (g := gbz1) (o := .cells #[.int .i64 tz10, .int .i64 tz11, .int .i64 tz12, .slice Ao30 tz3.length co30] 28 (0, 0)) (by refine p4 (.int .i64 0) (.int .i64 0) (.int .i64 0) (.slice none 0 0) ?_; exact BKz2.out) hb); replace HB := mk (below_step (by repeat (with_reducible first | exact HB.out | refine below_set ?_ GEz1.out)) hb); (try clear hb)))
    go_meet
    case rel => exact ⟨_, (true), (by rfl), H', ⟨by omega⟩, ⟨by exact Kd.Q_mono HOz5.out (fun _ hk => ⟨hk.1.1, ⟨hk.1.2, hk.2⟩⟩)⟩, ⟨by exact Kd.Q_mono HOz6.out (fun _ hk => ⟨hk.1.1, ⟨hk.1.2, hk.2⟩⟩)⟩, ⟨Kd.Q_of_R (by exact Kd.R_mono HOz8.out (fun _ hk => ⟨hk.1.1.2, ⟨hk.1.2, hk.2⟩⟩))⟩, ⟨Kd.Q_of_R (by exact Kd.R_mono HOz10.out (fun _ hk => ⟨hk.1.1.2, ⟨hk.1.2, hk.2⟩⟩))⟩, BKz0, BKz1, BKz3, BKz2, HB⟩
   rw [if_neg c33] at H
   have c33b0 : (tz16 != tz21) = false := by simpa using c33
   (try (have c33b1 : decide (tz16 = tz21) = true := by simpa using c33))
   (try (have c33b2 : (tz16 == tz21) = true := by simpa using c33))
   clear c33
   (skip)
   have H' := mk H
   clear H
   have hnb42 := NBz15.out
   have hnc42 := NBz11.out
   have hnb43 := NBz16.out
   have hnc43 := NBz12.out
   have hnb44 := NBz4.out
   have hnc44 := NBz19.out
   obtain ⟨hcz45_0, hcz45_1, hcz45_2, hcz45_3, hfz45_0, hfz45_1, hfz45_2, hfz45_3⟩ := c4 BKz3.out
   have hnb46 := NBz17.out
   have hnc46 := NBz2.out
   have hnb47 := NBz18.out
   have hnc47 := NBz3.out
   obtain ⟨hcz48_0, hcz48_1, hcz48_2, hcz48_3, hfz48_0, hfz48_1, hfz48_2, hfz48_3⟩ := c4 BKz2.out
   go_wp2_with (first | ((with_reducible refine gate_callee (f := 43) rfl ?_); refine goesL_ (some 39) rfl rfl Try.func43 (by kernel_rfl) rfl #[.agg #[.int .i64 tz13, .int .i64 tz14, .int .i64 tz15, .slice Ao21 tz5.length co21], .agg #[.int .i64 tz10, .int .i64 tz11, .int .i64 tz12, .slice Ao30 tz3.length co30]] rfl (by (try simp only [bitvec_to_nat]); rfl) ?_; (with_reducible refine (laws_equalImage.calls k tz13 tz14 tz15 _ _ tz5 tz10 tz11 tz12 _ _ tz3 true _ ?side1 ?side2 ?side3 ?side4 A31.out).mono ?_); (case side1 => refine (Kd.R_reads' (e := 3) (base := w.heap.size) (ok := fun k_ => (((True ∧ some k_ ≠ (.slice Ao12 tz0.length co12 : Value).ownBlock) ∧ some k_ ≠ (.slice Ao14 tz1.length co14 : Value).ownBlock) ∧ some k_ ≠ (.slice Ao30 tz3.length co30 : Value).ownBlock)) (n := tz5.length) (c := co21) ?_).2.2; exact (by exact (Kd.R_mono (R4 (Kd.R_types HOz8.out BKz2.out (by decide)) (.int .i64 tz10) (.int .i64 tz11) (.int .i64 tz12) (.slice Ao30 tz3.length co30)) (fun _ h_ => h_.1)))); (case side2 => exact (Kd.R_reads' HOz8.out).2.1); (case side3 => refine (Kd.R_reads' (e := 3) (base := w.heap.size) (ok := fun k_ => (((True ∧ some k_ ≠ (.slice Ao12 tz0.length co12 : Value).ownBlock) ∧ some k_ ≠ (.slice Ao14 tz1.length co14 : Value).ownBlock) ∧ some k_ ≠ (.slice Ao21 tz5.length co21 : Value).ownBlock)) (n := tz3.length) (c := co30) ?_).2.2; exact (by exact (Kd.R_mono (R4 (Kd.R_types HOz10.out BKz2.out (by decide)) (.int .i64 tz10) (.int .i64 tz11) (.int .i64 tz12) (.slice Ao30 tz3.length co30)) (fun _ h_ => h_.1)))); (case side4 => exact (Kd.R_reads' HOz10.out).2.1); rintro e w49 ⟨rfl, hb⟩; refine ⟨_, rfl, ?_⟩; replace HOz5 := mk (Kd.Q_below (by exact (Kd.Q_mono (Q4 (Kd.Q_types HOz5.out BKz2.out (by decide)) (.int .i64 tz10) (.int .i64 tz11) (.int .i64 tz12) (.slice Ao30 tz3.length co30)) (fun _ h_ => h_.1))) hb); replace HOz6 := mk (Kd.Q_below (by exact (Kd.Q_mono (Q4 (Kd.Q_types HOz6.out BKz2.out (by decide)) (.int .i64 tz10) (.int .i64 tz11) (.int .i64 tz12) (.slice Ao30 tz3.length co30)) (fun _ h_ => h_.1))) hb); replace HOz7 := mk (Kd.R_below (by exact (Kd.R_mono (R4 (Kd.R_types HOz7.out BKz2.out (by decide)) (.int .i64 tz10) (.int .i64 tz11) (.int .i64 tz12) (.slice Ao30 tz3.length co30)) (fun _ h_ => h_.1))) hb); replace HOz8 := mk (Kd.R_below (by exact (Kd.R_mono (R4 (Kd.R_types HOz8.out BKz2.out (by decide)) (.int .i64 tz10) (.int .i64 tz11) (.int .i64 tz12) (.slice Ao30 tz3.length co30)) (fun _ h_ => h_.1))) hb); replace HOz10 := mk (Kd.R_below (by exact (Kd.R_mono (R4 (Kd.R_types HOz10.out BKz2.out (by decide)) (.int .i64 tz10) (.int .i64 tz11) (.int .i64 tz12) (.slice Ao30 tz3.length co30)) (fun _ h_ => h_.1))) hb); replace BKz0 := mk (blk_below (g := gbz2) (o := .cells #[.int .i64 tz2, .int .i64 tz4, .int .i64 tz6, .slice Ao12 tz0.length co12] 28 (0, 0)) (by refine f4 ?_ NBz2.out; exact BKz0.out) hb); replace BKz1 := mk (blk_below (g := gbz3) (o := .cells #[.int .i64 tz7, .int .i64 tz8, .int .i64 tz9, .slice Ao14 tz1.length co14] 28 (0, 0)) (by refine f4 ?_ NBz3.out; exact BKz1.out) hb); replace BKz3 := mk (blk_below (g := gbz4) (o := .cells #[.int .i64 tz13, .int .i64 tz14, .int .i64 tz15, .slice Ao21 tz5.length co21] 28 (0, 0)) (by refine f4 ?_ NBz4.out; exact BKz3.out) hb); replace BKz2 := mk (blk_below (g := gbz1) (o := .cells #[.int .i64 tz10, .int .i64 tz11, .int .i64 tz12, .slice Ao30 tz3.length co30] 28 (0, 0)) (by refine p4 (.int .i64 0) (.int .i64 0) (.int .i64 0) (.slice none 0 0) ?_; exact BKz2.out) hb); replace HB := mk (below_step (by repeat (with_reducible first | exact HB.out | refine below_set ?_ GEz1.out)) hb); (try clear hb)))
   go_meet
   case rel => exact ⟨_, (!tz16), (by rfl), H', ⟨by omega⟩, ⟨by exact Kd.Q_mono HOz5.out (fun _ hk => ⟨hk.1.1, ⟨hk.1.2, hk.2⟩⟩)⟩, ⟨by exact Kd.Q_mono HOz6.out (fun _ hk => ⟨hk.1.1, ⟨hk.1.2, hk.2⟩⟩)⟩, ⟨Kd.Q_of_R (by exact Kd.R_mono HOz8.out (fun _ hk => ⟨hk.1.1.2, ⟨hk.1.2, hk.2⟩⟩))⟩, ⟨Kd.Q_of_R (by exact Kd.R_mono HOz10.out (fun _ hk => ⟨hk.1.1.2, ⟨hk.1.2, hk.2⟩⟩))⟩, BKz0, BKz1, BKz3, BKz2, HB⟩
  replace c32 := Bool.eq_false_iff.mpr c32
  subst c32
  have H1 : (laws_FnPatchImage.j0 k tz16 tz21 true tz2 tz4 tz6 tz0 tz7 tz8 tz9 tz1 tz13 tz14 tz15 tz5 tz10 tz11 tz12 tz3) = some r := by rw [if_neg (show ¬ (false = true) by decide)] at H; exact H
  clear H
  have H := H1
  clear H1
  have H' := mk H
  clear H
  have hnb50 := NBz15.out
  have hnc50 := NBz11.out
  have hnb51 := NBz16.out
  have hnc51 := NBz12.out
  have hnb52 := NBz4.out
  have hnc52 := NBz19.out
  obtain ⟨hcz53_0, hcz53_1, hcz53_2, hcz53_3, hfz53_0, hfz53_1, hfz53_2, hfz53_3⟩ := c4 BKz3.out
  have hnb54 := NBz17.out
  have hnc54 := NBz2.out
  have hnb55 := NBz18.out
  have hnc55 := NBz3.out
  obtain ⟨hcz56_0, hcz56_1, hcz56_2, hcz56_3, hfz56_0, hfz56_1, hfz56_2, hfz56_3⟩ := c4 BKz2.out
  go_wp2_with (first | ((with_reducible refine gate_callee (f := 43) rfl ?_); refine goesL_ (some 39) rfl rfl Try.func43 (by kernel_rfl) rfl #[.agg #[.int .i64 tz13, .int .i64 tz14, .int .i64 tz15, .slice Ao21 tz5.length co21], .agg #[.int .i64 tz10, .int .i64 tz11, .int .i64 tz12, .slice Ao30 tz3.length co30]] rfl (by (try simp only [bitvec_to_nat]); rfl) ?_; (with_reducible refine (laws_equalImage.calls k tz13 tz14 tz15 _ _ tz5 tz10 tz11 tz12 _ _ tz3 false _ ?side1 ?side2 ?side3 ?side4 A31.out).mono ?_); (case side1 => refine (Kd.R_reads' (e := 3) (base := w.heap.size) (ok := fun k_ => (((True ∧ some k_ ≠ (.slice Ao12 tz0.length co12 : Value).ownBlock) ∧ some k_ ≠ (.slice Ao14 tz1.length co14 : Value).ownBlock) ∧ some k_ ≠ (.slice Ao30 tz3.length co30 : Value).ownBlock)) (n := tz5.length) (c := co21) ?_).2.2; exact (by exact (Kd.R_mono (R4 (Kd.R_types HOz8.out BKz2.out (by decide)) (.int .i64 tz10) (.int .i64 tz11) (.int .i64 tz12) (.slice Ao30 tz3.length co30)) (fun _ h_ => h_.1)))); (case side2 => exact (Kd.R_reads' HOz8.out).2.1); (case side3 => refine (Kd.R_reads' (e := 3) (base := w.heap.size) (ok := fun k_ => (((True ∧ some k_ ≠ (.slice Ao12 tz0.length co12 : Value).ownBlock) ∧ some k_ ≠ (.slice Ao14 tz1.length co14 : Value).ownBlock) ∧ some k_ ≠ (.slice Ao21 tz5.length co21 : Value).ownBlock)) (n := tz3.length) (c := co30) ?_).2.2; exact (by exact (Kd.R_mono (R4 (Kd.R_types HOz10.out BKz2.out (by decide)) (.int .i64 tz10) (.int .i64 tz11) (.int .i64 tz12) (.slice Ao30 tz3.length co30)) (fun _ h_ => h_.1)))); (case side4 => exact (Kd.R_reads' HOz10.out).2.1); rintro e w57 ⟨rfl, hb⟩; refine ⟨_, rfl, ?_⟩; replace HOz5 := mk (Kd.Q_below (by exact (Kd.Q_mono (Q4 (Kd.Q_types HOz5.out BKz2.out (by decide)) (.int .i64 tz10) (.int .i64 tz11) (.int .i64 tz12) (.slice Ao30 tz3.length co30)) (fun _ h_ => h_.1))) hb); replace HOz6 := mk (Kd.Q_below (by exact (Kd.Q_mono (Q4 (Kd.Q_types HOz6.out BKz2.out (by decide)) (.int .i64 tz10) (.int .i64 tz11) (.int .i64 tz12) (.slice Ao30 tz3.length co30)) (fun _ h_ => h_.1))) hb); replace HOz7 := mk (Kd.R_below (by exact (Kd.R_mono (R4 (Kd.R_types HOz7.out BKz2.out (by decide)) (.int .i64 tz10) (.int .i64 tz11) (.int .i64 tz12) (.slice Ao30 tz3.length co30)) (fun _ h_ => h_.1))) hb); replace HOz8 := mk (Kd.R_below (by exact (Kd.R_mono (R4 (Kd.R_types HOz8.out BKz2.out (by decide)) (.int .i64 tz10) (.int .i64 tz11) (.int .i64 tz12) (.slice Ao30 tz3.length co30)) (fun _ h_ => h_.1))) hb); replace HOz10 := mk (Kd.R_below (by exact (Kd.R_mono (R4 (Kd.R_types HOz10.out BKz2.out (by decide)) (.int .i64 tz10) (.int .i64 tz11) (.int .i64 tz12) (.slice Ao30 tz3.length co30)) (fun _ h_ => h_.1))) hb); replace BKz0 := mk (blk_below (g := gbz2) (o := .cells #[.int .i64 tz2, .int .i64 tz4, .int .i64 tz6, .slice Ao12 tz0.length co12] 28 (0, 0)) (by refine f4 ?_ NBz2.out; exact BKz0.out) hb); replace BKz1 := mk (blk_below (g := gbz3) (o := .cells #[.int .i64 tz7, .int .i64 tz8, .int .i64 tz9, .slice Ao14 tz1.length co14] 28 (0, 0)) (by refine f4 ?_ NBz3.out; exact BKz1.out) hb); replace BKz3 := mk (blk_below (g := gbz4) (o := .cells #[.int .i64 tz13, .int .i64 tz14, .int .i64 tz15, .slice Ao21 tz5.length co21] 28 (0, 0)) (by refine f4 ?_ NBz4.out; exact BKz3.out) hb); replace BKz2 := mk (blk_below (g := gbz1) (o := .cells #[.int .i64 tz10, .int .i64 tz11, .int .i64 tz12, .slice Ao30 tz3.length co30] 28 (0, 0)) (by refine p4 (.int .i64 0) (.int .i64 0) (.int .i64 0) (.slice none 0 0) ?_; exact BKz2.out) hb); replace HB := mk (below_step (by repeat (with_reducible first | exact HB.out | refine below_set ?_ GEz1.out)) hb); (try clear hb)))
  go_meet
  case rel => exact ⟨_, (true), (by rfl), H', ⟨by omega⟩, ⟨by exact Kd.Q_mono HOz5.out (fun _ hk => ⟨hk.1.1, ⟨hk.1.2, hk.2⟩⟩)⟩, ⟨by exact Kd.Q_mono HOz6.out (fun _ hk => ⟨hk.1.1, ⟨hk.1.2, hk.2⟩⟩)⟩, ⟨Kd.Q_of_R (by exact Kd.R_mono HOz8.out (fun _ hk => ⟨hk.1.1.2, ⟨hk.1.2, hk.2⟩⟩))⟩, ⟨Kd.Q_of_R (by exact Kd.R_mono HOz10.out (fun _ hk => ⟨hk.1.1.2, ⟨hk.1.2, hk.2⟩⟩))⟩, BKz0, BKz1, BKz3, BKz2, HB⟩
 case rest =>
  clear HC6
  obtain ⟨kq, x49_5, rfl, HA, HJ5, HOz0, HOz1, HOz2, HOz3, BKz0, BKz1, BKz3, BKz2, HB⟩ := hcut
  cases kq with
  | zero => exact absurd HA.out (by simp [laws_FnPatchImage.j0])
  | succ kj5 =>
   have H := HA.out
   clear HA
   simp only [laws_FnPatchImage.j0] at H
   by_cases c58 : x49_5 = true
   ·subst c58
    have H1 : ((laws_equalImage.f kj5 tz13 tz14 tz15 tz5 tz10 tz11 tz12 tz3).bind fun tz31 => (if tz31 = true then (some (tz16 == tz21)) else (some false))) = some r := by rw [if_pos rfl] at H; exact H
    clear H
    have H := H1
    clear H1
    replace H := Option.bind_eq_some_iff.mp H
    obtain ⟨tz31, A590, H⟩ := H
    replace H : (if tz31 = true then (some (tz16 == tz21)) else (some false)) = some r := H
    have A59 := mk A590
    clear A590
    by_cases c60 : tz31 = true
    ·subst c60
     have H1 : (some (tz16 == tz21)) = some r := by rw [if_pos rfl] at H; exact H
     clear H
     have H := H1
     clear H1
     obtain rfl := Option.some.inj H
     have hnb61 := NBz15.out
     have hnc61 := NBz11.out
     have hnb62 := NBz16.out
     have hnc62 := NBz12.out
     have hnb63 := NBz4.out
     have hnc63 := NBz19.out
     obtain ⟨hcz64_0, hcz64_1, hcz64_2, hcz64_3, hfz64_0, hfz64_1, hfz64_2, hfz64_3⟩ := c4 BKz3.out
     have hnb65 := NBz17.out
     have hnc65 := NBz2.out
     have hnb66 := NBz18.out
     have hnc66 := NBz3.out
     obtain ⟨hcz67_0, hcz67_1, hcz67_2, hcz67_3, hfz67_0, hfz67_1, hfz67_2, hfz67_3⟩ := c4 BKz2.out
     go_wp2_with (first | ((with_reducible refine gate_callee (f := 43) rfl ?_); refine goesL_ (some 52) rfl rfl Try.func43 (by kernel_rfl) rfl #[.agg #[.int .i64 tz13, .int .i64 tz14, .int .i64 tz15, .slice Ao21 tz5.length co21], .agg #[.int .i64 tz10, .int .i64 tz11, .int .i64 tz12, .slice Ao30 tz3.length co30]] rfl (by (try simp only [bitvec_to_nat]); rfl) ?_; (with_reducible refine (laws_equalImage.calls kj5 tz13 tz14 tz15 _ _ tz5 tz10 tz11 tz12 _ _ tz3 true _ ?side1 ?side2 ?side3 ?side4 A59.out).mono ?_); (case side1 => repeat (exact (Kd.Q_reads' HOz2.out).2.2)); (case side2 => exact (Kd.Q_reads' HOz2.out).2.1); (case side3 => repeat (exact (Kd.Q_reads' HOz3.out).2.2)); (case side4 => exact (Kd.Q_reads' HOz3.out).2.1); rintro e w68 ⟨rfl, hb⟩; refine ⟨_, rfl, ?_⟩; replace HOz0 := mk (Kd.Q_below HOz0.out hb); replace HOz1 := mk (Kd.Q_below HOz1.out hb); replace HOz2 := mk (Kd.Q_below HOz2.out hb); replace HOz3 := mk (Kd.Q_below HOz3.out hb); replace BKz0 := mk (blk_below BKz0.out hb); replace BKz1 := mk (blk_below BKz1.out hb); replace BKz3 := mk (blk_below BKz3.out hb); replace BKz2 := mk (blk_below BKz2.out hb); replace HB := mk (below_step HB.out hb); (try clear hb)))
     go_ret
     exact ⟨by rfl, by exact HB.out⟩
    replace c60 := Bool.eq_false_iff.mpr c60
    subst c60
    have H1 : (some false) = some r := by rw [if_neg (show ¬ (false = true) by decide)] at H; exact H
    clear H
    have H := H1
    clear H1
    exact absurd ((Option.some.inj H).trans HRT.out) (by decide)
   replace c58 := Bool.eq_false_iff.mpr c58
   subst c58
   have H1 : ((impl_ChangedBoxes.f tz2 tz4 tz6 tz0 tz7 tz8 tz9 tz1).bind fun tz27 => ((impl_PatchImage.f kj5 tz2 tz4 tz6 tz0 tz7 tz8 tz9 tz1 tz27).bind fun btz4 => ((impl_PatchImage.f kj5 tz2 tz4 tz6 tz0 tz7 tz8 tz9 tz1 ([] : List S60)).bind fun btz3 => (if btz4.2.2.2.2 = true then ((laws_equalImage.f kj5 btz4.1 btz4.2.1 btz4.2.2.1 btz4.2.2.2.1 tz7 tz8 tz9 tz1).bind fun tz28 => (if tz28 = true then (if btz3.2.2.2.2 = true then ((laws_equalImage.f kj5 btz3.1 btz3.2.1 btz3.2.2.1 btz3.2.2.2.1 tz2 tz4 tz6 tz0).bind fun tz23 => (some tz23)) else (some false)) else (some false))) else (some false))))) = some r := by rw [if_neg (show ¬ (false = true) by decide)] at H; exact H
   clear H
   have H := H1
   clear H1
   replace H := Option.bind_eq_some_iff.mp H
   obtain ⟨tz27, A770, H⟩ := H
   replace H : ((impl_PatchImage.f kj5 tz2 tz4 tz6 tz0 tz7 tz8 tz9 tz1 tz27).bind fun btz4 => ((impl_PatchImage.f kj5 tz2 tz4 tz6 tz0 tz7 tz8 tz9 tz1 ([] : List S60)).bind fun btz3 => (if btz4.2.2.2.2 = true then ((laws_equalImage.f kj5 btz4.1 btz4.2.1 btz4.2.2.1 btz4.2.2.2.1 tz7 tz8 tz9 tz1).bind fun tz28 => (if tz28 = true then (if btz3.2.2.2.2 = true then ((laws_equalImage.f kj5 btz3.1 btz3.2.1 btz3.2.2.1 btz3.2.2.2.1 tz2 tz4 tz6 tz0).bind fun tz23 => (some tz23)) else (some false)) else (some false))) else (some false)))) = some r := H
   have A77 := mk A770
   clear A770
   replace H := Option.bind_eq_some_iff.mp H
   obtain ⟨⟨tz17, tz19, tz20, tz18, tz33⟩, A780, H⟩ := H
   replace H : ((impl_PatchImage.f kj5 tz2 tz4 tz6 tz0 tz7 tz8 tz9 tz1 ([] : List S60)).bind fun btz3 => (if tz33 = true then ((laws_equalImage.f kj5 tz17 tz19 tz20 tz18 tz7 tz8 tz9 tz1).bind fun tz28 => (if tz28 = true then (if btz3.2.2.2.2 = true then ((laws_equalImage.f kj5 btz3.1 btz3.2.1 btz3.2.2.1 btz3.2.2.2.1 tz2 tz4 tz6 tz0).bind fun tz23 => (some tz23)) else (some false)) else (some false))) else (some false))) = some r := H
   have A78 := mk A780
   clear A780
   replace H := Option.bind_eq_some_iff.mp H
   obtain ⟨⟨tz22, tz24, tz26, tz25, tz32⟩, A790, H⟩ := H
   replace H : (if tz33 = true then ((laws_equalImage.f kj5 tz17 tz19 tz20 tz18 tz7 tz8 tz9 tz1).bind fun tz28 => (if tz28 = true then (if tz32 = true then ((laws_equalImage.f kj5 tz22 tz24 tz26 tz25 tz2 tz4 tz6 tz0).bind fun tz23 => (some tz23)) else (some false)) else (some false))) else (some false)) = some r := H
   have A79 := mk A790
   clear A790
   by_cases c80 : tz33 = true
   ·subst c80
    have H1 : ((laws_equalImage.f kj5 tz17 tz19 tz20 tz18 tz7 tz8 tz9 tz1).bind fun tz28 => (if tz28 = true then (if tz32 = true then ((laws_equalImage.f kj5 tz22 tz24 tz26 tz25 tz2 tz4 tz6 tz0).bind fun tz23 => (some tz23)) else (some false)) else (some false))) = some r := by rw [if_pos rfl] at H; exact H
    clear H
    have H := H1
    clear H1
    replace H := Option.bind_eq_some_iff.mp H
    obtain ⟨tz28, A810, H⟩ := H
    replace H : (if tz28 = true then (if tz32 = true then ((laws_equalImage.f kj5 tz22 tz24 tz26 tz25 tz2 tz4 tz6 tz0).bind fun tz23 => (some tz23)) else (some false)) else (some false)) = some r := H
    have A81 := mk A810
    clear A810
    by_cases c82 : tz28 = true
    ·subst c82
     have H1 : (if tz32 = true then ((laws_equalImage.f kj5 tz22 tz24 tz26 tz25 tz2 tz4 tz6 tz0).bind fun tz23 => (some tz23)) else (some false)) = some r := by rw [if_pos rfl] at H; exact H
     clear H
     have H := H1
     clear H1
     by_cases c83 : tz32 = true
     ·subst c83
      have H1 : ((laws_equalImage.f kj5 tz22 tz24 tz26 tz25 tz2 tz4 tz6 tz0).bind fun tz23 => (some tz23)) = some r := by rw [if_pos rfl] at H; exact H
      clear H
      have H := H1
      clear H1
      replace H := Option.bind_eq_some_iff.mp H
      obtain ⟨tz23, A840, H⟩ := H
      replace H : (some tz23) = some r := H
      have A84 := mk A840
      clear A840
      obtain rfl := Option.some.inj H
      try go_wp2
      replace HOz0 := mk (Kd.Q_drew HOz0.out)
      replace HOz1 := mk (Kd.Q_drew HOz1.out)
      replace HOz2 := mk (Kd.Q_drew HOz2.out)
      replace HOz3 := mk (Kd.Q_drew HOz3.out)
      replace BKz0 := mk (blk_drew BKz0.out)
      replace BKz1 := mk (blk_drew BKz1.out)
      replace BKz3 := mk (blk_drew BKz3.out)
      replace BKz2 := mk (blk_drew BKz2.out)
      replace HB := mk (below_drew1 HB.out)
      refine start_ (n := 12) (S := fun w' => w'.cell? ⟨gbz2, 0, none⟩ = some (.int .i64 tz2) ∧ w'.cell? ⟨gbz2, 1, none⟩ = some (.int .i64 tz4) ∧ w'.cell? ⟨gbz2, 2, none⟩ = some (.int .i64 tz6) ∧ w'.cell? ⟨gbz2, 3, none⟩ = some (.slice Ao12 tz0.length co12) ∧ w'.cell? ⟨gbz3, 0, none⟩ = some (.int .i64 tz7) ∧ w'.cell? ⟨gbz3, 1, none⟩ = some (.int .i64 tz8) ∧ w'.cell? ⟨gbz3, 2, none⟩ = some (.int .i64 tz9) ∧ w'.cell? ⟨gbz3, 3, none⟩ = some (.slice Ao14 tz1.length co14)) (ds := []) #[false, false, false, false, false, false, false, false, false, false, false, false] (by kernel_rfl) rfl rfl ⟨blk_cell BKz0.out 0, blk_cell BKz0.out 1, blk_cell BKz0.out 2, blk_cell BKz0.out 3, blk_cell BKz1.out 0, blk_cell BKz1.out 1, blk_cell BKz1.out 2, blk_cell BKz1.out 3⟩ (fun hHeld => ?_); refine with_tabW laws_FnPatchImage.tab8 laws_FnPatchImage.bits8 (fun HT_ HW_ => ?_)
      generalize wc.drew = w85 at HOz0 HOz1 HOz2 HOz3 BKz0 BKz1 BKz3 BKz2 HB hHeld ⊢
      refine tk 0 59 ?_ ?_ rfl rfl (take_ofW HT_.out HW_.out (by kernel_rfl)) (Or.inl ⟨by rfl, ?_⟩) hHeld ?_ ?_
      rotate_left 2
      ·rintro w' ⟨s0, s1, s2, s3, s4, s5, s6, s7⟩
       go_simp
       with_reducible rfl
      ·simp only [seval]
       rfl
      refine tk 1 60 ?_ ?_ rfl rfl (take_ofW HT_.out HW_.out (by kernel_rfl)) (Or.inl ⟨by rfl, ?_⟩) hHeld ?_ ?_
      rotate_left 2
      ·rintro w' ⟨s0, s1, s2, s3, s4, s5, s6, s7⟩
       go_simp
       with_reducible rfl
      ·simp only [seval]
       rfl
      refine tk 2 61 ?_ ?_ rfl rfl (take_ofW HT_.out HW_.out (by kernel_rfl)) (Or.inl ⟨by rfl, ?_⟩) hHeld ?_ ?_
      rotate_left 2
      ·rintro w' ⟨s0, s1, s2, s3, s4, s5, s6, s7⟩
       go_simp
       with_reducible rfl
      ·simp only [seval]
       rfl
      refine tk 3 62 ?_ ?_ rfl rfl (take_ofW HT_.out HW_.out (by kernel_rfl)) (Or.inl ⟨by rfl, ?_⟩) hHeld ?_ ?_
      rotate_left 2
      ·rintro w' ⟨s0, s1, s2, s3, s4, s5, s6, s7⟩
       go_simp
       with_reducible rfl
      ·simp only [seval]
       rfl
      refine join_ (σ := Value × Value × Nat) 2 #[true, true, true, true, true, true, true, true, true, true, false, false] (fun s_ => [(63, s_.1), (64, .tuple #[.agg #[.int .i64 tz17, .int .i64 tz19, .int .i64 tz20, s_.2.1], .bool true]), (10, .pointer (some ⟨s_.2.2, 0, none⟩)), (58, .tuple #[.agg #[.int .i64 tz17, .int .i64 tz19, .int .i64 tz20, s_.2.1], .bool true]), (65, .agg #[.int .i64 tz17, .int .i64 tz19, .int .i64 tz20, s_.2.1]), (66, .bool true)]) (fun s_ w' => (w'.cell? ⟨gbz2, 0, none⟩ = some (.int .i64 tz2) ∧ w'.cell? ⟨gbz2, 1, none⟩ = some (.int .i64 tz4) ∧ w'.cell? ⟨gbz2, 2, none⟩ = some (.int .i64 tz6) ∧ w'.cell? ⟨gbz2, 3, none⟩ = some (.slice Ao12 tz0.length co12) ∧ w'.cell? ⟨gbz3, 0, none⟩ = some (.int .i64 tz7) ∧ w'.cell? ⟨gbz3, 1, none⟩ = some (.int .i64 tz8) ∧ w'.cell? ⟨gbz3, 2, none⟩ = some (.int .i64 tz9) ∧ w'.cell? ⟨gbz3, 3, none⟩ = some (.slice Ao14 tz1.length co14)) ∧ (Kd.R k60 60 w' w.heap.size (fun _ => True) s_.1 tz27) ∧ (Kd.R (Kd.int .i64) 3 w' w.heap.size (fun k_ => some k_ ≠ (.slice Ao12 tz0.length co12 : Value).ownBlock ∧ some k_ ≠ (.slice Ao14 tz1.length co14 : Value).ownBlock ∧ some k_ ≠ (.slice Ao21 tz5.length co21 : Value).ownBlock ∧ some k_ ≠ (.slice Ao30 tz3.length co30 : Value).ownBlock) s_.2.1 tz18) ∧ (Kd.Q (Kd.int .i64) 3 w' w.heap.size (fun k_ => some k_ ≠ (s_.2.1 : Value).ownBlock ∧ some k_ ≠ (.slice Ao14 tz1.length co14 : Value).ownBlock ∧ some k_ ≠ (.slice Ao21 tz5.length co21 : Value).ownBlock ∧ some k_ ≠ (.slice Ao30 tz3.length co30 : Value).ownBlock) (.slice Ao12 tz0.length co12) tz0) ∧ (Kd.Q (Kd.int .i64) 3 w' w.heap.size (fun k_ => some k_ ≠ (s_.2.1 : Value).ownBlock ∧ some k_ ≠ (.slice Ao12 tz0.length co12 : Value).ownBlock ∧ some k_ ≠ (.slice Ao21 tz5.length co21 : Value).ownBlock ∧ some k_ ≠ (.slice Ao30 tz3.length co30 : Value).ownBlock) (.slice Ao14 tz1.length co14) tz1) ∧ (Kd.Q (Kd.int .i64) 3 w' w.heap.size (fun k_ => some k_ ≠ (s_.2.1 : Value).ownBlock ∧ some k_ ≠ (.slice Ao12 tz0.length co12 : Value).ownBlock ∧ some k_ ≠ (.slice Ao14 tz1.length co14 : Value).ownBlock ∧ some k_ ≠ (.slice Ao30 tz3.length co30 : Value).ownBlock) (.slice Ao21 tz5.length co21) tz5) ∧ (Kd.Q (Kd.int .i64) 3 w' w.heap.size (fun k_ => some k_ ≠ (s_.2.1 : Value).ownBlock ∧ some k_ ≠ (.slice Ao12 tz0.length co12 : Value).ownBlock ∧ some k_ ≠ (.slice Ao14 tz1.length co14 : Value).ownBlock ∧ some k_ ≠ (.slice Ao21 tz5.length co21 : Value).ownBlock) (.slice Ao30 tz3.length co30) tz3) ∧ (w'.heap[gbz2]? = some (.cells #[.int .i64 tz2, .int .i64 tz4, .int .i64 tz6, .slice Ao12 tz0.length co12] 28 (0, 0))) ∧ (w'.heap[gbz3]? = some (.cells #[.int .i64 tz7, .int .i64 tz8, .int .i64 tz9, .slice Ao14 tz1.length co14] 28 (0, 0))) ∧ (w'.heap[gbz4]? = some (.cells #[.int .i64 tz13, .int .i64 tz14, .int .i64 tz15, .slice Ao21 tz5.length co21] 28 (0, 0))) ∧ (w'.heap[gbz1]? = some (.cells #[.int .i64 tz10, .int .i64 tz11, .int .i64 tz12, .slice Ao30 tz3.length co30] 28 (0, 0))) ∧ (w'.heap[s_.2.2]? = some (.cells #[.int .i64 0, .int .i64 0, .int .i64 0, .slice none 0 0] 28 (0, 0))) ∧ (w.heap.size ≤ s_.2.2) ∧ (w.heap.size ≤ s_.2.2) ∧ (gbz2 ≠ s_.2.2) ∧ (s_.2.2 ≠ gbz2) ∧ (gbz3 ≠ s_.2.2) ∧ (s_.2.2 ≠ gbz3) ∧ (gbz4 ≠ s_.2.2) ∧ (s_.2.2 ≠ gbz4) ∧ (gbz1 ≠ s_.2.2) ∧ (s_.2.2 ≠ gbz1) ∧ (Below w.heap.size w w')) ?_ ?_
      rotate_left
      ·intro hCont
       refine two_ (i := 4) (j := 9) (Ni := some 63) (Nj := some 10) #[true, true, true, true, true, false, false, false, false, false, false, false] #[true, true, true, true, false, false, false, false, false, true, false, false] rfl rfl rfl rfl (two_of HT_.out (by kernel_rfl)) (by decide) (by decide) (fun K hK => ?_) (fun K hK => ?_)
       ·skip
        refine goes_ Try.func33 (by kernel_rfl) rfl #[.agg #[.int .i64 tz2, .int .i64 tz4, .int .i64 tz6, .slice Ao12 tz0.length co12], .agg #[.int .i64 tz7, .int .i64 tz8, .int .i64 tz9, .slice Ao14 tz1.length co14]] (by rfl) rfl rfl (by (try simp only [bitvec_to_nat]); rfl) ?_
        with_reducible refine (impl_ChangedBoxes.calls tz2 tz4 tz6 _ _ tz0 tz7 tz8 tz9 _ _ tz1 tz27 _ ?side1 ?side2 ?side3 ?side4 A77.out).mono ?_
        (case side1 => repeat (exact (Kd.Q_reads' HOz0.out).2.2))
        (case side2 => exact (Kd.Q_reads' HOz0.out).2.1)
        (case side3 => repeat (exact (Kd.Q_reads' HOz1.out).2.2))
        (case side4 => exact (Kd.Q_reads' HOz1.out).2.1)
        rintro e w86 ⟨vz1, rfl, ho0, hb⟩
        refine ⟨_, rfl, ?_⟩
        replace HOz0 := mk (Kd.Q_below HOz0.out hb)
        replace HOz1 := mk (Kd.Q_below HOz1.out hb)
        replace HOz2 := mk (Kd.Q_below HOz2.out hb)
        replace HOz3 := mk (Kd.Q_below HOz3.out hb)
        have HOz4 := mk (Kd.R_lower ho0 (below_size HB.out))
        replace BKz0 := mk (blk_below BKz0.out hb)
        replace BKz1 := mk (blk_below BKz1.out hb)
        replace BKz3 := mk (blk_below BKz3.out hb)
        replace BKz2 := mk (blk_below BKz2.out hb)
        replace HB := mk (below_step HB.out hb)
        (try clear hb)
        (try clear ho0)
        obtain ⟨Ao87, co87, eo87⟩ := Kd.R_slice HOz4.out
        (subst eo87)
        refine hK.out _ _ ⟨blk_cell BKz0.out 0, blk_cell BKz0.out 1, blk_cell BKz0.out 2, blk_cell BKz0.out 3, blk_cell BKz1.out 0, blk_cell BKz1.out 1, blk_cell BKz1.out 2, blk_cell BKz1.out 3⟩ (fun hHeld => ?_)
        clear hK K
        refine norm_ (a' := ?_) ?_ ?_
        rotate_left
        ·show Act.put _ (some 63) _ = _
         simp only [seval]
         rfl
        refine two_ (i := 5) (j := 9) (Ni := some 64) (Nj := some 10) #[true, true, true, true, true, true, false, false, false, false, false, false] #[true, true, true, true, true, false, false, false, false, true, false, false] rfl rfl rfl rfl (two_of HT_.out (by kernel_rfl)) (by decide) (by decide) (fun K hK => ?_) (fun K hK => ?_)
        ·skip
         refine goes_ Try.func41 (by kernel_rfl) rfl #[.agg #[.int .i64 tz2, .int .i64 tz4, .int .i64 tz6, .slice Ao12 tz0.length co12], .agg #[.int .i64 tz7, .int .i64 tz8, .int .i64 tz9, .slice Ao14 tz1.length co14], .slice Ao87 tz27.length co87] (by rfl) rfl rfl (by (try simp only [bitvec_to_nat]); rfl) ?_
         with_reducible refine (impl_PatchImage.calls kj5 tz2 tz4 tz6 _ _ tz0 tz7 tz8 tz9 _ _ tz1 _ _ tz27 tz17 tz19 tz20 tz18 true _ ?side1 ?side2 ?side3 ?side4 ?side5 ?side6 A78.out).mono ?_
         (case side1 => repeat (exact (Kd.Q_reads' HOz0.out).2.2))
         (case side2 => exact (Kd.Q_reads' HOz0.out).2.1)
         (case side3 => repeat (exact (Kd.Q_reads' HOz1.out).2.2))
         (case side4 => exact (Kd.Q_reads' HOz1.out).2.1)
         (case side5 => repeat (exact (Kd.R_reads' HOz4.out).2.2))
         (case side6 => exact (Kd.R_reads' HOz4.out).2.1)
         rintro e w88 ⟨vz0, rfl, ho0, hb⟩
         refine ⟨_, rfl, ?_⟩
         replace HOz4 := mk (Kd.R_below HOz4.out hb)
         have HOz9 := mk (Kd.R_lower (Kd.R_new' (Kd.R_new' (Kd.R_new' (Kd.R_new' ho0 (Kd.Q_lt HOz0.out)) (Kd.Q_lt HOz1.out)) (Kd.Q_lt HOz2.out)) (Kd.Q_lt HOz3.out)) (below_size HB.out))
         replace HOz0 := mk (Kd.Q_elder' HOz0.out (Kd.R_base ho0) hb)
         replace HOz1 := mk (Kd.Q_elder' HOz1.out (Kd.R_base ho0) hb)
         replace HOz2 := mk (Kd.Q_elder' HOz2.out (Kd.R_base ho0) hb)
         replace HOz3 := mk (Kd.Q_elder' HOz3.out (Kd.R_base ho0) hb)
         replace BKz0 := mk (blk_below BKz0.out hb)
         replace BKz1 := mk (blk_below BKz1.out hb)
         replace BKz3 := mk (blk_below BKz3.out hb)
         replace BKz2 := mk (blk_below BKz2.out hb)
         replace HB := mk (below_step HB.out hb)
         (try clear hb)
         (try clear ho0)
         refine hK.out _ _ ⟨blk_cell BKz0.out 0, blk_cell BKz0.out 1, blk_cell BKz0.out 2, blk_cell BKz0.out 3, blk_cell BKz1.out 0, blk_cell BKz1.out 1, blk_cell BKz1.out 2, blk_cell BKz1.out 3⟩ (fun hHeld => ?_)
         clear hK K
         refine norm_ (a' := ?_) ?_ ?_
         rotate_left
         ·show Act.put _ (some 64) _ = _
          simp only [seval]
          rfl
         refine pu 6 58 ?_ ?_ rfl rfl (any_of HT_.out (by kernel_rfl)) (Or.inl ⟨by rfl, ?_⟩) ?_ ?_
         rotate_left 2
         ·intro w'
          go_simp
          with_reducible rfl
         ·simp only [seval]
          rfl
         refine pu 7 65 ?_ ?_ rfl rfl (any_of HT_.out (by kernel_rfl)) (Or.inl ⟨by rfl, ?_⟩) ?_ ?_
         rotate_left 2
         ·intro w'
          go_simp
          with_reducible rfl
         ·simp only [seval]
          rfl
         refine pu 8 66 ?_ ?_ rfl rfl (any_of HT_.out (by kernel_rfl)) (Or.inl ⟨by rfl, ?_⟩) ?_ ?_
         rotate_left 2
         ·intro w'
          go_simp
          with_reducible rfl
         ·simp only [seval]
          rfl
         refine one_ (i := 9) (N := some 10) #[true, true, true, true, true, true, true, true, true, true, false, false] rfl rfl (one_of HT_.out (by kernel_rfl)) (by decide) (fun K hK => ?_)
         refine box_step ?hg (N := 10) ?hd (cs := #[.int .i64 0, .int .i64 0, .int .i64 0, .slice none 0 0]) (t := 28) ?hr ?_; (case hd => rfl); (case hg => rfl); (case hr => (go_simp; done))
         intro gbz0 hg w89 hbox hb
         replace HOz0 := mk (Kd.Q_below HOz0.out hb)
         replace HOz1 := mk (Kd.Q_below HOz1.out hb)
         replace HOz2 := mk (Kd.Q_below HOz2.out hb)
         replace HOz3 := mk (Kd.Q_below HOz3.out hb)
         replace HOz4 := mk (Kd.R_below HOz4.out hb)
         replace HOz9 := mk (Kd.R_below HOz9.out hb)
         have BKz4 := mk (hbox)
         have GWz0 := mk ((by rw [hg]; exact (below_size HB.out) : w.heap.size ≤ gbz0))
         have GEz0 := mk ((by rw [hg]; exact (below_size HB.out) : w.heap.size ≤ gbz0))
         replace HB := mk (below_step HB.out hb)
         have NBz0 := mk ((by rw [hg]; exact Nat.ne_of_lt (blk_lt BKz0.out) : gbz2 ≠ gbz0))
         replace BKz0 := mk (blk_below BKz0.out hb)
         have NBz7 := mk NBz0.out.symm
         have NBz1 := mk ((by rw [hg]; exact Nat.ne_of_lt (blk_lt BKz1.out) : gbz3 ≠ gbz0))
         replace BKz1 := mk (blk_below BKz1.out hb)
         have NBz8 := mk NBz1.out.symm
         have NBz5 := mk ((by rw [hg]; exact Nat.ne_of_lt (blk_lt BKz3.out) : gbz4 ≠ gbz0))
         replace BKz3 := mk (blk_below BKz3.out hb)
         have NBz9 := mk NBz5.out.symm
         have NBz6 := mk ((by rw [hg]; exact Nat.ne_of_lt (blk_lt BKz2.out) : gbz1 ≠ gbz0))
         replace BKz2 := mk (blk_below BKz2.out hb)
         have NBz10 := mk NBz6.out.symm
         clear hb hbox hg
         refine hK.out _ _ ⟨blk_cell BKz0.out 0, blk_cell BKz0.out 1, blk_cell BKz0.out 2, blk_cell BKz0.out 3, blk_cell BKz1.out 0, blk_cell BKz1.out 1, blk_cell BKz1.out 2, blk_cell BKz1.out 3⟩ (fun hHeld => ?_)
         clear hK K
         refine norm_ (a' := ?_) ?_ ?_
         rotate_left
         ·show Act.put _ (some 10) _ = _
          simp only [seval]
          rfl
         exact norm_ (by simp only [putAll, Act.put, List.setIfInBounds_toArray, List.set_cons_zero, List.set_cons_succ]) (hCont (.slice Ao87 tz27.length co87, vz0, gbz0) _ ⟨hHeld, HOz4.out, (by exact Kd.R_mono HOz9.out (fun _ hk => ⟨hk.1.1.1.2, ⟨hk.1.1.2, ⟨hk.1.2, hk.2⟩⟩⟩)), (by exact Kd.Q_mono HOz0.out (fun _ hk => ⟨hk.2, ⟨hk.1.1, ⟨hk.1.2.1, hk.1.2.2⟩⟩⟩)), (by exact Kd.Q_mono HOz1.out (fun _ hk => ⟨hk.2, ⟨hk.1.1, ⟨hk.1.2.1, hk.1.2.2⟩⟩⟩)), (by exact Kd.Q_mono HOz2.out (fun _ hk => ⟨hk.2, ⟨hk.1.1, ⟨hk.1.2.1, hk.1.2.2⟩⟩⟩)), (by exact Kd.Q_mono HOz3.out (fun _ hk => ⟨hk.2, ⟨hk.1.1, ⟨hk.1.2.1, hk.1.2.2⟩⟩⟩)), BKz0.out, BKz1.out, BKz3.out, BKz2.out, BKz4.out, GWz0.out, GEz0.out, NBz0.out, NBz7.out, NBz1.out, NBz8.out, NBz5.out, NBz9.out, NBz6.out, NBz10.out, (HB.out)⟩)
        skip
        refine box_step ?hg (N := 10) ?hd (cs := #[.int .i64 0, .int .i64 0, .int .i64 0, .slice none 0 0]) (t := 28) ?hr ?_; (case hd => rfl); (case hg => rfl); (case hr => (go_simp; done))
        intro gbz0 hg w87 hbox hb
        replace HOz0 := mk (Kd.Q_below HOz0.out hb)
        replace HOz1 := mk (Kd.Q_below HOz1.out hb)
        replace HOz2 := mk (Kd.Q_below HOz2.out hb)
        replace HOz3 := mk (Kd.Q_below HOz3.out hb)
        replace HOz4 := mk (Kd.R_below HOz4.out hb)
        have BKz4 := mk (hbox)
        have GWz0 := mk ((by rw [hg]; exact (below_size HB.out) : w.heap.size ≤ gbz0))
        have GEz0 := mk ((by rw [hg]; exact (below_size HB.out) : w.heap.size ≤ gbz0))
        replace HB := mk (below_step HB.out hb)
        have NBz0 := mk ((by rw [hg]; exact Nat.ne_of_lt (blk_lt BKz0.out) : gbz2 ≠ gbz0))
        replace BKz0 := mk (blk_below BKz0.out hb)
        have NBz7 := mk NBz0.out.symm
        have NBz1 := mk ((by rw [hg]; exact Nat.ne_of_lt (blk_lt BKz1.out) : gbz3 ≠ gbz0))
        replace BKz1 := mk (blk_below BKz1.out hb)
        have NBz8 := mk NBz1.out.symm
        have NBz5 := mk ((by rw [hg]; exact Nat.ne_of_lt (blk_lt BKz3.out) : gbz4 ≠ gbz0))
        replace BKz3 := mk (blk_below BKz3.out hb)
        have NBz9 := mk NBz5.out.symm
        have NBz6 := mk ((by rw [hg]; exact Nat.ne_of_lt (blk_lt BKz2.out) : gbz1 ≠ gbz0))
        replace BKz2 := mk (blk_below BKz2.out hb)
        have NBz10 := mk NBz6.out.symm
        clear hb hbox hg
        obtain ⟨Ao88, co88, eo88⟩ := Kd.R_slice HOz4.out
        (injection eo88 with f1_ f2_ f3_; have f4_ := f1_.symm; have f5_ := f3_.symm; clear f1_ f2_ f3_; subst f4_; subst f5_)
        refine hK.out _ _ ⟨blk_cell BKz0.out 0, blk_cell BKz0.out 1, blk_cell BKz0.out 2, blk_cell BKz0.out 3, blk_cell BKz1.out 0, blk_cell BKz1.out 1, blk_cell BKz1.out 2, blk_cell BKz1.out 3⟩ (fun hHeld => ?_)
        clear hK K
        refine norm_ (a' := ?_) ?_ ?_
        rotate_left
        ·show Act.put _ (some 10) _ = _
         simp only [seval]
         rfl
        refine one_ (i := 5) (N := some 64) #[true, true, true, true, true, true, false, false, false, true, false, false] rfl rfl (one_of HT_.out (by kernel_rfl)) (by decide) (fun K hK => ?_)
        refine goes_ Try.func41 (by kernel_rfl) rfl #[.agg #[.int .i64 tz2, .int .i64 tz4, .int .i64 tz6, .slice Ao12 tz0.length co12], .agg #[.int .i64 tz7, .int .i64 tz8, .int .i64 tz9, .slice Ao14 tz1.length co14], .slice Ao88 tz27.length co88] (by rfl) rfl rfl (by (try simp only [bitvec_to_nat]); rfl) ?_
        with_reducible refine (impl_PatchImage.calls kj5 tz2 tz4 tz6 _ _ tz0 tz7 tz8 tz9 _ _ tz1 _ _ tz27 tz17 tz19 tz20 tz18 true _ ?side1 ?side2 ?side3 ?side4 ?side5 ?side6 A78.out).mono ?_
        (case side1 => repeat (exact (Kd.Q_reads' HOz0.out).2.2))
        (case side2 => exact (Kd.Q_reads' HOz0.out).2.1)
        (case side3 => repeat (exact (Kd.Q_reads' HOz1.out).2.2))
        (case side4 => exact (Kd.Q_reads' HOz1.out).2.1)
        (case side5 => repeat (exact (Kd.R_reads' HOz4.out).2.2))
        (case side6 => exact (Kd.R_reads' HOz4.out).2.1)
        rintro e w89 ⟨vz0, rfl, ho0, hb⟩
        refine ⟨_, rfl, ?_⟩
        replace HOz4 := mk (Kd.R_below HOz4.out hb)
        have HOz9 := mk (Kd.R_lower (Kd.R_new' (Kd.R_new' (Kd.R_new' (Kd.R_new' ho0 (Kd.Q_lt HOz0.out)) (Kd.Q_lt HOz1.out)) (Kd.Q_lt HOz2.out)) (Kd.Q_lt HOz3.out)) (below_size HB.out))
        replace HOz0 := mk (Kd.Q_elder' HOz0.out (Kd.R_base ho0) hb)
        replace HOz1 := mk (Kd.Q_elder' HOz1.out (Kd.R_base ho0) hb)
        replace HOz2 := mk (Kd.Q_elder' HOz2.out (Kd.R_base ho0) hb)
        replace HOz3 := mk (Kd.Q_elder' HOz3.out (Kd.R_base ho0) hb)
        replace BKz0 := mk (blk_below BKz0.out hb)
        replace BKz1 := mk (blk_below BKz1.out hb)
        replace BKz3 := mk (blk_below BKz3.out hb)
        replace BKz2 := mk (blk_below BKz2.out hb)
        replace BKz4 := mk (blk_below BKz4.out hb)
        replace HB := mk (below_step HB.out hb)
        (try clear hb)
        (try clear ho0)
        refine hK.out _ _ ⟨blk_cell BKz0.out 0, blk_cell BKz0.out 1, blk_cell BKz0.out 2, blk_cell BKz0.out 3, blk_cell BKz1.out 0, blk_cell BKz1.out 1, blk_cell BKz1.out 2, blk_cell BKz1.out 3⟩ (fun hHeld => ?_)
        clear hK K
        refine norm_ (a' := ?_) ?_ ?_
        rotate_left
        ·show Act.put _ (some 64) _ = _
         simp only [seval]
         rfl
        refine pu 6 58 ?_ ?_ rfl rfl (any_of HT_.out (by kernel_rfl)) (Or.inl ⟨by rfl, ?_⟩) ?_ ?_
        rotate_left 2
        ·intro w'
         go_simp
         with_reducible rfl
        ·simp only [seval]
         rfl
        refine pu 7 65 ?_ ?_ rfl rfl (any_of HT_.out (by kernel_rfl)) (Or.inl ⟨by rfl, ?_⟩) ?_ ?_
        rotate_left 2
        ·intro w'
         go_simp
         with_reducible rfl
        ·simp only [seval]
         rfl
        refine pu 8 66 ?_ ?_ rfl rfl (any_of HT_.out (by kernel_rfl)) (Or.inl ⟨by rfl, ?_⟩) ?_ ?_
        rotate_left 2
        ·intro w'
         go_simp
         with_reducible rfl
        ·simp only [seval]
         rfl
        exact norm_ (by simp only [putAll, Act.put, List.setIfInBounds_toArray, List.set_cons_zero, List.set_cons_succ]) (hCont (.slice Ao88 tz27.length co88, vz0, gbz0) _ ⟨hHeld, HOz4.out, (by exact Kd.R_mono HOz9.out (fun _ hk => ⟨hk.1.1.1.2, ⟨hk.1.1.2, ⟨hk.1.2, hk.2⟩⟩⟩)), (by exact Kd.Q_mono HOz0.out (fun _ hk => ⟨hk.2, ⟨hk.1.1, ⟨hk.1.2.1, hk.1.2.2⟩⟩⟩)), (by exact Kd.Q_mono HOz1.out (fun _ hk => ⟨hk.2, ⟨hk.1.1, ⟨hk.1.2.1, hk.1.2.2⟩⟩⟩)), (by exact Kd.Q_mono HOz2.out (fun _ hk => ⟨hk.2, ⟨hk.1.1, ⟨hk.1.2.1, hk.1.2.2⟩⟩⟩)), (by exact Kd.Q_mono HOz3.out (fun _ hk => ⟨hk.2, ⟨hk.1.1, ⟨hk.1.2.1, hk.1.2.2⟩⟩⟩)), BKz0.out, BKz1.out, BKz3.out, BKz2.out, BKz4.out, GWz0.out, GEz0.out, NBz0.out, NBz7.out, NBz1.out, NBz8.out, NBz5.out, NBz9.out, NBz6.out, NBz10.out, (HB.out)⟩)
       skip
       refine box_step ?hg (N := 10) ?hd (cs := #[.int .i64 0, .int .i64 0, .int .i64 0, .slice none 0 0]) (t := 28) ?hr ?_; (case hd => rfl); (case hg => rfl); (case hr => (go_simp; done))
       intro gbz0 hg w86 hbox hb
       replace HOz0 := mk (Kd.Q_below HOz0.out hb)
       replace HOz1 := mk (Kd.Q_below HOz1.out hb)
       replace HOz2 := mk (Kd.Q_below HOz2.out hb)
       replace HOz3 := mk (Kd.Q_below HOz3.out hb)
       have BKz4 := mk (hbox)
       have GWz0 := mk ((by rw [hg]; exact (below_size HB.out) : w.heap.size ≤ gbz0))
       have GEz0 := mk ((by rw [hg]; exact (below_size HB.out) : w.heap.size ≤ gbz0))
       replace HB := mk (below_step HB.out hb)
       have NBz0 := mk ((by rw [hg]; exact Nat.ne_of_lt (blk_lt BKz0.out) : gbz2 ≠ gbz0))
       replace BKz0 := mk (blk_below BKz0.out hb)
       have NBz7 := mk NBz0.out.symm
       have NBz1 := mk ((by rw [hg]; exact Nat.ne_of_lt (blk_lt BKz1.out) : gbz3 ≠ gbz0))
       replace BKz1 := mk (blk_below BKz1.out hb)
       have NBz8 := mk NBz1.out.symm
       have NBz5 := mk ((by rw [hg]; exact Nat.ne_of_lt (blk_lt BKz3.out) : gbz4 ≠ gbz0))
       replace BKz3 := mk (blk_below BKz3.out hb)
       have NBz9 := mk NBz5.out.symm
       have NBz6 := mk ((by rw [hg]; exact Nat.ne_of_lt (blk_lt BKz2.out) : gbz1 ≠ gbz0))
       replace BKz2 := mk (blk_below BKz2.out hb)
       have NBz10 := mk NBz6.out.symm
       clear hb hbox hg
       refine hK.out _ _ ⟨blk_cell BKz0.out 0, blk_cell BKz0.out 1, blk_cell BKz0.out 2, blk_cell BKz0.out 3, blk_cell BKz1.out 0, blk_cell BKz1.out 1, blk_cell BKz1.out 2, blk_cell BKz1.out 3⟩ (fun hHeld => ?_)
       clear hK K
       refine norm_ (a' := ?_) ?_ ?_
       rotate_left
       ·show Act.put _ (some 10) _ = _
        simp only [seval]
        rfl
       refine one_ (i := 4) (N := some 63) #[true, true, true, true, true, false, false, false, false, true, false, false] rfl rfl (one_of HT_.out (by kernel_rfl)) (by decide) (fun K hK => ?_)
       refine goes_ Try.func33 (by kernel_rfl) rfl #[.agg #[.int .i64 tz2, .int .i64 tz4, .int .i64 tz6, .slice Ao12 tz0.length co12], .agg #[.int .i64 tz7, .int .i64 tz8, .int .i64 tz9, .slice Ao14 tz1.length co14]] (by rfl) rfl rfl (by (try simp only [bitvec_to_nat]); rfl) ?_
       with_reducible refine (impl_ChangedBoxes.calls tz2 tz4 tz6 _ _ tz0 tz7 tz8 tz9 _ _ tz1 tz27 _ ?side1 ?side2 ?side3 ?side4 A77.out).mono ?_
       (case side1 => repeat (exact (Kd.Q_reads' HOz0.out).2.2))
       (case side2 => exact (Kd.Q_reads' HOz0.out).2.1)
       (case side3 => repeat (exact (Kd.Q_reads' HOz1.out).2.2))
       (case side4 => exact (Kd.Q_reads' HOz1.out).2.1)
       rintro e w87 ⟨vz1, rfl, ho0, hb⟩
       refine ⟨_, rfl, ?_⟩
       replace HOz0 := mk (Kd.Q_below HOz0.out hb)
       replace HOz1 := mk (Kd.Q_below HOz1.out hb)
       replace HOz2 := mk (Kd.Q_below HOz2.out hb)
       replace HOz3 := mk (Kd.Q_below HOz3.out hb)
       have HOz4 := mk (Kd.R_lower ho0 (below_size HB.out))
       replace BKz0 := mk (blk_below BKz0.out hb)
       replace BKz1 := mk (blk_below BKz1.out hb)
       replace BKz3 := mk (blk_below BKz3.out hb)
       replace BKz2 := mk (blk_below BKz2.out hb)
       replace BKz4 := mk (blk_below BKz4.out hb)
       replace HB := mk (below_step HB.out hb)
       (try clear hb)
       (try clear ho0)
       obtain ⟨Ao88, co88, eo88⟩ := Kd.R_slice HOz4.out
       (subst eo88)
       refine hK.out _ _ ⟨blk_cell BKz0.out 0, blk_cell BKz0.out 1, blk_cell BKz0.out 2, blk_cell BKz0.out 3, blk_cell BKz1.out 0, blk_cell BKz1.out 1, blk_cell BKz1.out 2, blk_cell BKz1.out 3⟩ (fun hHeld => ?_)
       clear hK K
       refine norm_ (a' := ?_) ?_ ?_
       rotate_left
       ·show Act.put _ (some 63) _ = _
        simp only [seval]
        rfl
       refine one_ (i := 5) (N := some 64) #[true, true, true, true, true, true, false, false, false, true, false, false] rfl rfl (one_of HT_.out (by kernel_rfl)) (by decide) (fun K hK => ?_)
       refine goes_ Try.func41 (by kernel_rfl) rfl #[.agg #[.int .i64 tz2, .int .i64 tz4, .int .i64 tz6, .slice Ao12 tz0.length co12], .agg #[.int .i64 tz7, .int .i64 tz8, .int .i64 tz9, .slice Ao14 tz1.length co14], .slice Ao88 tz27.length co88] (by rfl) rfl rfl (by (try simp only [bitvec_to_nat]); rfl) ?_
       with_reducible refine (impl_PatchImage.calls kj5 tz2 tz4 tz6 _ _ tz0 tz7 tz8 tz9 _ _ tz1 _ _ tz27 tz17 tz19 tz20 tz18 true _ ?side1 ?side2 ?side3 ?side4 ?side5 ?side6 A78.out).mono ?_
       (case side1 => repeat (exact (Kd.Q_reads' HOz0.out).2.2))
       (case side2 => exact (Kd.Q_reads' HOz0.out).2.1)
       (case side3 => repeat (exact (Kd.Q_reads' HOz1.out).2.2))
       (case side4 => exact (Kd.Q_reads' HOz1.out).2.1)
       (case side5 => repeat (exact (Kd.R_reads' HOz4.out).2.2))
       (case side6 => exact (Kd.R_reads' HOz4.out).2.1)
       rintro e w89 ⟨vz0, rfl, ho0, hb⟩
       refine ⟨_, rfl, ?_⟩
       replace HOz4 := mk (Kd.R_below HOz4.out hb)
       have HOz9 := mk (Kd.R_lower (Kd.R_new' (Kd.R_new' (Kd.R_new' (Kd.R_new' ho0 (Kd.Q_lt HOz0.out)) (Kd.Q_lt HOz1.out)) (Kd.Q_lt HOz2.out)) (Kd.Q_lt HOz3.out)) (below_size HB.out))
       replace HOz0 := mk (Kd.Q_elder' HOz0.out (Kd.R_base ho0) hb)
       replace HOz1 := mk (Kd.Q_elder' HOz1.out (Kd.R_base ho0) hb)
       replace HOz2 := mk (Kd.Q_elder' HOz2.out (Kd.R_base ho0) hb)
       replace HOz3 := mk (Kd.Q_elder' HOz3.out (Kd.R_base ho0) hb)
       replace BKz0 := mk (blk_below BKz0.out hb)
       replace BKz1 := mk (blk_below BKz1.out hb)
       replace BKz3 := mk (blk_below BKz3.out hb)
       replace BKz2 := mk (blk_below BKz2.out hb)
       replace BKz4 := mk (blk_below BKz4.out hb)
       replace HB := mk (below_step HB.out hb)
       (try clear hb)
       (try clear ho0)
       refine hK.out _ _ ⟨blk_cell BKz0.out 0, blk_cell BKz0.out 1, blk_cell BKz0.out 2, blk_cell BKz0.out 3, blk_cell BKz1.out 0, blk_cell BKz1.out 1, blk_cell BKz1.out 2, blk_cell BKz1.out 3⟩ (fun hHeld => ?_)
       clear hK K
       refine norm_ (a' := ?_) ?_ ?_
       rotate_left
       ·show Act.put _ (some 64) _ = _
        simp only [seval]
        rfl
       refine pu 6 58 ?_ ?_ rfl rfl (any_of HT_.out (by kernel_rfl)) (Or.inl ⟨by rfl, ?_⟩) ?_ ?_
       rotate_left 2
       ·intro w'
        go_simp
        with_reducible rfl
       ·simp only [seval]
        rfl
       refine pu 7 65 ?_ ?_ rfl rfl (any_of HT_.out (by kernel_rfl)) (Or.inl ⟨by rfl, ?_⟩) ?_ ?_
       rotate_left 2
       ·intro w'
        go_simp
        with_reducible rfl
       ·simp only [seval]
        rfl
       refine pu 8 66 ?_ ?_ rfl rfl (any_of HT_.out (by kernel_rfl)) (Or.inl ⟨by rfl, ?_⟩) ?_ ?_
       rotate_left 2
       ·intro w'
        go_simp
        with_reducible rfl
       ·simp only [seval]
        rfl
       exact norm_ (by simp only [putAll, Act.put, List.setIfInBounds_toArray, List.set_cons_zero, List.set_cons_succ]) (hCont (.slice Ao88 tz27.length co88, vz0, gbz0) _ ⟨hHeld, HOz4.out, (by exact Kd.R_mono HOz9.out (fun _ hk => ⟨hk.1.1.1.2, ⟨hk.1.1.2, ⟨hk.1.2, hk.2⟩⟩⟩)), (by exact Kd.Q_mono HOz0.out (fun _ hk => ⟨hk.2, ⟨hk.1.1, ⟨hk.1.2.1, hk.1.2.2⟩⟩⟩)), (by exact Kd.Q_mono HOz1.out (fun _ hk => ⟨hk.2, ⟨hk.1.1, ⟨hk.1.2.1, hk.1.2.2⟩⟩⟩)), (by exact Kd.Q_mono HOz2.out (fun _ hk => ⟨hk.2, ⟨hk.1.1, ⟨hk.1.2.1, hk.1.2.2⟩⟩⟩)), (by exact Kd.Q_mono HOz3.out (fun _ hk => ⟨hk.2, ⟨hk.1.1, ⟨hk.1.2.1, hk.1.2.2⟩⟩⟩)), BKz0.out, BKz1.out, BKz3.out, BKz2.out, BKz4.out, GWz0.out, GEz0.out, NBz0.out, NBz7.out, NBz1.out, NBz8.out, NBz5.out, NBz9.out, NBz6.out, NBz10.out, (HB.out)⟩)
      rintro ⟨vz1, vz0, gbz0⟩ w90 ⟨hS_, h0_, h1_, h2_, h3_, h4_, h5_, h6_, h7_, h8_, h9_, h10_, h11_, h12_, h13_, h14_, h15_, h16_, h17_, h18_, h19_, h20_, h21_⟩
      have n0_ : Aside0 (Kd.R k60 60 w90 w.heap.size (fun _ => True) vz1 tz27) := ⟨h0_⟩
      have n1_ : Aside0 (Kd.R (Kd.int .i64) 3 w90 w.heap.size (fun k_ => some k_ ≠ (.slice Ao12 tz0.length co12 : Value).ownBlock ∧ some k_ ≠ (.slice Ao14 tz1.length co14 : Value).ownBlock ∧ some k_ ≠ (.slice Ao21 tz5.length co21 : Value).ownBlock ∧ some k_ ≠ (.slice Ao30 tz3.length co30 : Value).ownBlock) vz0 tz18) := ⟨h1_⟩
      have n2_ : Aside0 (Kd.Q (Kd.int .i64) 3 w90 w.heap.size (fun k_ => some k_ ≠ (vz0 : Value).ownBlock ∧ some k_ ≠ (.slice Ao14 tz1.length co14 : Value).ownBlock ∧ some k_ ≠ (.slice Ao21 tz5.length co21 : Value).ownBlock ∧ some k_ ≠ (.slice Ao30 tz3.length co30 : Value).ownBlock) (.slice Ao12 tz0.length co12) tz0) := ⟨h2_⟩
      have n3_ : Aside0 (Kd.Q (Kd.int .i64) 3 w90 w.heap.size (fun k_ => some k_ ≠ (vz0 : Value).ownBlock ∧ some k_ ≠ (.slice Ao12 tz0.length co12 : Value).ownBlock ∧ some k_ ≠ (.slice Ao21 tz5.length co21 : Value).ownBlock ∧ some k_ ≠ (.slice Ao30 tz3.length co30 : Value).ownBlock) (.slice Ao14 tz1.length co14) tz1) := ⟨h3_⟩
      have n4_ : Aside0 (Kd.Q (Kd.int .i64) 3 w90 w.heap.size (fun k_ => some k_ ≠ (vz0 : Value).ownBlock ∧ some k_ ≠ (.slice Ao12 tz0.length co12 : Value).ownBlock ∧ some k_ ≠ (.slice Ao14 tz1.length co14 : Value).ownBlock ∧ some k_ ≠ (.slice Ao30 tz3.length co30 : Value).ownBlock) (.slice Ao21 tz5.length co21) tz5) := ⟨h4_⟩
      have n5_ : Aside0 (Kd.Q (Kd.int .i64) 3 w90 w.heap.size (fun k_ => some k_ ≠ (vz0 : Value).ownBlock ∧ some k_ ≠ (.slice Ao12 tz0.length co12 : Value).ownBlock ∧ some k_ ≠ (.slice Ao14 tz1.length co14 : Value).ownBlock ∧ some k_ ≠ (.slice Ao21 tz5.length co21 : Value).ownBlock) (.slice Ao30 tz3.length co30) tz3) := ⟨h5_⟩
      have n6_ : Aside0 (w90.heap[gbz2]? = some (.cells #[.int .i64 tz2, .int .i64 tz4, .int .i64 tz6, .slice Ao12 tz0.length co12] 28 (0, 0))) := ⟨h6_⟩
      have n7_ : Aside0 (w90.heap[gbz3]? = some (.cells #[.int .i64 tz7, .int .i64 tz8, .int .i64 tz9, .slice Ao14 tz1.length co14] 28 (0, 0))) := ⟨h7_⟩
      have n8_ : Aside0 (w90.heap[gbz4]? = some (.cells #[.int .i64 tz13, .int .i64 tz14, .int .i64 tz15, .slice Ao21 tz5.length co21] 28 (0, 0))) := ⟨h8_⟩
      have n9_ : Aside0 (w90.heap[gbz1]? = some (.cells #[.int .i64 tz10, .int .i64 tz11, .int .i64 tz12, .slice Ao30 tz3.length co30] 28 (0, 0))) := ⟨h9_⟩
      have n10_ : Aside0 (w90.heap[gbz0]? = some (.cells #[.int .i64 0, .int .i64 0, .int .i64 0, .slice none 0 0] 28 (0, 0))) := ⟨h10_⟩
      have n11_ : Aside0 (w.heap.size ≤ gbz0) := ⟨h11_⟩
      have n12_ : Aside0 (w.heap.size ≤ gbz0) := ⟨h12_⟩
      have n13_ : Aside0 (gbz2 ≠ gbz0) := ⟨h13_⟩
      have n14_ : Aside0 (gbz0 ≠ gbz2) := ⟨h14_⟩
      have n15_ : Aside0 (gbz3 ≠ gbz0) := ⟨h15_⟩
      have n16_ : Aside0 (gbz0 ≠ gbz3) := ⟨h16_⟩
      have n17_ : Aside0 (gbz4 ≠ gbz0) := ⟨h17_⟩
      have n18_ : Aside0 (gbz0 ≠ gbz4) := ⟨h18_⟩
      have n19_ : Aside0 (gbz1 ≠ gbz0) := ⟨h19_⟩
      have n20_ : Aside0 (gbz0 ≠ gbz1) := ⟨h20_⟩
      have n21_ : Aside0 (Below w.heap.size w w90) := ⟨h21_⟩
      clear HOz0 HOz1 HOz2 HOz3 BKz0 BKz1 BKz3 BKz2 HB h0_ h1_ h2_ h3_ h4_ h5_ h6_ h7_ h8_ h9_ h10_ h11_ h12_ h13_ h14_ h15_ h16_ h17_ h18_ h19_ h20_ h21_
      revert n0_ n1_ n2_ n3_ n4_ n5_ n6_ n7_ n8_ n9_ n10_ n11_ n12_ n13_ n14_ n15_ n16_ n17_ n18_ n19_ n20_ n21_; intro HOz4 HOz9 HOz0 HOz1 HOz2 HOz3 BKz0 BKz1 BKz3 BKz2 BKz4 GWz0 GEz0 NBz0 NBz7 NBz1 NBz8 NBz5 NBz9 NBz6 NBz10 HB
      have hHeld : w90.cell? ⟨gbz2, 0, none⟩ = some (.int .i64 tz2) ∧ w90.cell? ⟨gbz2, 1, none⟩ = some (.int .i64 tz4) ∧ w90.cell? ⟨gbz2, 2, none⟩ = some (.int .i64 tz6) ∧ w90.cell? ⟨gbz2, 3, none⟩ = some (.slice Ao12 tz0.length co12) ∧ w90.cell? ⟨gbz3, 0, none⟩ = some (.int .i64 tz7) ∧ w90.cell? ⟨gbz3, 1, none⟩ = some (.int .i64 tz8) ∧ w90.cell? ⟨gbz3, 2, none⟩ = some (.int .i64 tz9) ∧ w90.cell? ⟨gbz3, 3, none⟩ = some (.slice Ao14 tz1.length co14) := hS_
      obtain ⟨Ao94, co94, eo94⟩ := Kd.R_slice HOz9.out
      (subst eo94)
      refine norm_ (a' := ?_) ?_ ?_
      rotate_left
      ·simp only [putAll, Act.put, List.setIfInBounds_toArray, List.set_cons_zero, List.set_cons_succ]
       rfl
      refine one_ (i := 10) (N := none) #[true, true, true, true, true, true, true, true, true, true, true, false] rfl rfl (one_of HT_.out (by kernel_rfl)) (by decide) (fun K hK => ?_)
      obtain ⟨hs91, -, -, -, hfs91, -⟩ := c4 BKz4.out
      have hns91_0 := NBz0.out
      have hns91_1 := NBz1.out
      have hns91_2 := NBz5.out
      have hns91_3 := NBz6.out
      have hms91_0 := NBz7.out
      have hms91_1 := NBz8.out
      have hms91_2 := NBz9.out
      have hms91_3 := NBz10.out
      obtain ⟨-, hs92, -, -, -, hfs92, -⟩ := c4 BKz4.out
      have hns92_0 := NBz0.out
      have hns92_1 := NBz1.out
      have hns92_2 := NBz5.out
      have hns92_3 := NBz6.out
      have hms92_0 := NBz7.out
      have hms92_1 := NBz8.out
      have hms92_2 := NBz9.out
      have hms92_3 := NBz10.out
      obtain ⟨-, -, hs93, -, -, -, hfs93, -⟩ := c4 BKz4.out
      have hns93_0 := NBz0.out
      have hns93_1 := NBz1.out
      have hns93_2 := NBz5.out
      have hns93_3 := NBz6.out
      have hms93_0 := NBz7.out
      have hms93_1 := NBz8.out
      have hms93_2 := NBz9.out
      have hms93_3 := NBz10.out
      obtain ⟨-, -, -, hs95, -, -, -, hfs95⟩ := c4 BKz4.out
      have hns95_0 := NBz0.out
      have hns95_1 := NBz1.out
      have hns95_2 := NBz5.out
      have hns95_3 := NBz6.out
      have hms95_0 := NBz7.out
      have hms95_1 := NBz8.out
      have hms95_2 := NBz9.out
      have hms95_3 := NBz10.out
      refine skip_ (w1 := ?_) (by rfl) rfl ?_ ?_
      rotate_left
      ·go_simp
       rfl
      refine hK.out _ _ ⟨(e4 NBz0.out hHeld.1), (e4 NBz0.out hHeld.2.1), (e4 NBz0.out hHeld.2.2.1), (e4 NBz0.out hHeld.2.2.2.1), (e4 NBz1.out hHeld.2.2.2.2.1), (e4 NBz1.out hHeld.2.2.2.2.2.1), (e4 NBz1.out hHeld.2.2.2.2.2.2.1), (e4 NBz1.out hHeld.2.2.2.2.2.2.2)⟩ (fun hHeld => ?_)
      clear hK K
      refine pu 11 11 ?_ ?_ rfl rfl (any_of HT_.out (by kernel_rfl)) (Or.inl ⟨by rfl, ?_⟩) ?_ ?_
      rotate_left 2
      ·intro w'
       go_simp
       with_reducible rfl
      ·simp only [seval]
       rfl
      refine done_ (done_of HT_.out (by kernel_rfl)) ?_
      have hnb96 := NBz13.out
      have hnc96 := NBz14.out
      have hnb97 := NBz11.out
      have hnc97 := NBz15.out
      have hnb98 := NBz2.out
      have hnc98 := NBz17.out
      have hnb99 := NBz0.out
      have hnc99 := NBz7.out
      obtain ⟨hcz100_0, hcz100_1, hcz100_2, hcz100_3, hfz100_0, hfz100_1, hfz100_2, hfz100_3⟩ := c4 BKz0.out
      have hnb101 := NBz12.out
      have hnc101 := NBz16.out
      have hnb102 := NBz3.out
      have hnc102 := NBz18.out
      have hnb103 := NBz1.out
      have hnc103 := NBz8.out
      obtain ⟨hcz104_0, hcz104_1, hcz104_2, hcz104_3, hfz104_0, hfz104_1, hfz104_2, hfz104_3⟩ := c4 BKz1.out
      try go_wp2_with (first | ((with_reducible refine gate_callee (f := 41) rfl ?_); refine goesL_ (some 70) rfl rfl Try.func41 (by kernel_rfl) rfl #[.agg #[.int .i64 tz2, .int .i64 tz4, .int .i64 tz6, .slice Ao12 tz0.length co12], .agg #[.int .i64 tz7, .int .i64 tz8, .int .i64 tz9, .slice Ao14 tz1.length co14], .slice none 0 0] rfl (by (try simp only [bitvec_to_nat]); rfl) ?_; (refine (impl_PatchImage.calls kj5 tz2 tz4 tz6 _ _ tz0 tz7 tz8 tz9 _ _ tz1 _ _ ([] : List S60) tz22 tz24 tz26 tz25 true _ ?side1 ?side2 ?side3 ?side4 ?side5 ?side6 A79.out).mono ?_); (case side1 => refine (Kd.Q_reads' (e := 3) (base := w.heap.size) (ok := fun k_ => (some k_ ≠ (.slice Ao94 tz18.length co94 : Value).ownBlock ∧ (some k_ ≠ (.slice Ao14 tz1.length co14 : Value).ownBlock ∧ (some k_ ≠ (.slice Ao21 tz5.length co21 : Value).ownBlock ∧ some k_ ≠ (.slice Ao30 tz3.length co30 : Value).ownBlock)))) (n := tz0.length) (c := co12) ?_).2.2; exact (by exact (Kd.Q_mono (Q4 (Kd.Q_types HOz0.out BKz4.out (by decide)) (.int .i64 tz17) (.int .i64 tz19) (.int .i64 tz20) (.slice Ao94 tz18.length co94)) (fun _ h_ => h_.1)))); (case side2 => exact (Kd.Q_reads' HOz0.out).2.1); (case side3 => refine (Kd.Q_reads' (e := 3) (base := w.heap.size) (ok := fun k_ => (some k_ ≠ (.slice Ao94 tz18.length co94 : Value).ownBlock ∧ (some k_ ≠ (.slice Ao12 tz0.length co12 : Value).ownBlock ∧ (some k_ ≠ (.slice Ao21 tz5.length co21 : Value).ownBlock ∧ some k_ ≠ (.slice Ao30 tz3.length co30 : Value).ownBlock)))) (n := tz1.length) (c := co14) ?_).2.2; exact (by exact (Kd.Q_mono (Q4 (Kd.Q_types HOz1.out BKz4.out (by decide)) (.int .i64 tz17) (.int .i64 tz19) (.int .i64 tz20) (.slice Ao94 tz18.length co94)) (fun _ h_ => h_.1)))); (case side4 => exact (Kd.Q_reads' HOz1.out).2.1); (case side5 => exact Kd.C_nil _ _); (case side6 => exact Nat.le_refl _); rintro e w105 ⟨vz7, rfl, ho0, hb⟩; refine ⟨_, rfl, ?_⟩; replace HOz4 := mk (Kd.R_below (by exact (Kd.R_mono (R4 (Kd.R_types HOz4.out BKz4.out (by decide)) (.int .i64 tz17) (.int .i64 tz19) (.int .i64 tz20) (.slice Ao94 tz18.length co94)) (fun _ h_ => h_.1))) hb); have HOz11 := mk (Kd.R_lower (Kd.R_new' (Kd.R_new' (Kd.R_new' (Kd.R_new' (Kd.R_new' ho0 (Kd.Q_lt (by exact (Kd.Q_mono (Q4 (Kd.Q_types HOz0.out BKz4.out (by decide)) (.int .i64 tz17) (.int .i64 tz19) (.int .i64 tz20) (.slice Ao94 tz18.length co94)) (fun _ h_ => h_.1))))) (Kd.Q_lt (by exact (Kd.Q_mono (Q4 (Kd.Q_types HOz1.out BKz4.out (by decide)) (.int .i64 tz17) (.int .i64 tz19) (.int .i64 tz20) (.slice Ao94 tz18.length co94)) (fun _ h_ => h_.1))))) (Kd.Q_lt (by exact (Kd.Q_mono (Q4 (Kd.Q_types HOz2.out BKz4.out (by decide)) (.int .i64 tz17) (.int .i64 tz19) (.int .i64 tz20) (.slice Ao94 tz18.length co94)) (fun _ h_ => h_.1))))) (Kd.Q_lt (by exact (Kd.Q_mono (Q4 (Kd.Q_types HOz3.out BKz4.out (by decide)) (.int .i64 tz17) (.int .i64 tz19) (.int .i64 tz20) (.slice Ao94 tz18.length co94)) (fun _ h_ => h_.1))))) (Kd.R_lt (by exact (Kd.R_mono (R4 (Kd.R_types HOz9.out BKz4.out (by decide)) (.int .i64 tz17) (.int .i64 tz19) (.int .i64 tz20) (.slice Ao94 tz18.length co94)) (fun _ h_ => h_.1))))) (below_size (by repeat (with_reducible first | exact HB.out | refine below_set ?_ GEz0.out)))); replace HOz0 := mk (Kd.Q_elder' (by exact (Kd.Q_mono (Q4 (Kd.Q_types HOz0.out BKz4.out (by decide)) (.int .i64 tz17) (.int .i64 tz19) (.int .i64 tz20) (.slice Ao94 tz18.length co94)) (fun _ h_ => h_.1))) (Kd.R_base ho0) hb); replace HOz1 := mk (Kd.Q_elder' (by exact (Kd.Q_mono (Q4 (Kd.Q_types HOz1.out BKz4.out (by decide)) (.int .i64 tz17) (.int .i64 tz19) (.int .i64 tz20) (.slice Ao94 tz18.length co94)) (fun _ h_ => h_.1))) (Kd.R_base ho0) hb); replace HOz2 := mk (Kd.Q_elder' (by exact (Kd.Q_mono (Q4 (Kd.Q_types HOz2.out BKz4.out (by decide)) (.int .i64 tz17) (.int .i64 tz19) (.int .i64 tz20) (.slice Ao94 tz18.length co94)) (fun _ h_ => h_.1))) (Kd.R_base ho0) hb); replace HOz3 := mk (Kd.Q_elder' (by exact (Kd.Q_mono (Q4 (Kd.Q_types HOz3.out BKz4.out (by decide)) (.int .i64 tz17) (.int .i64 tz19) (.int .i64 tz20) (.slice Ao94 tz18.length co94)) (fun _ h_ => h_.1))) (Kd.R_base ho0) hb); replace HOz9 := mk (Kd.R_elder' (by exact (Kd.R_mono (R4 (Kd.R_types HOz9.out BKz4.out (by decide)) (.int .i64 tz17) (.int .i64 tz19) (.int .i64 tz20) (.slice Ao94 tz18.length co94)) (fun _ h_ => h_.1))) (Kd.R_base ho0) hb); replace BKz0 := mk (blk_below (g := gbz2) (o := .cells #[.int .i64 tz2, .int .i64 tz4, .int .i64 tz6, .slice Ao12 tz0.length co12] 28 (0, 0)) (by refine f4 ?_ NBz0.out; exact BKz0.out) hb); replace BKz1 := mk (blk_below (g := gbz3) (o := .cells #[.int .i64 tz7, .int .i64 tz8, .int .i64 tz9, .slice Ao14 tz1.length co14] 28 (0, 0)) (by refine f4 ?_ NBz1.out; exact BKz1.out) hb); replace BKz3 := mk (blk_below (g := gbz4) (o := .cells #[.int .i64 tz13, .int .i64 tz14, .int .i64 tz15, .slice Ao21 tz5.length co21] 28 (0, 0)) (by refine f4 ?_ NBz5.out; exact BKz3.out) hb); replace BKz2 := mk (blk_below (g := gbz1) (o := .cells #[.int .i64 tz10, .int .i64 tz11, .int .i64 tz12, .slice Ao30 tz3.length co30] 28 (0, 0)) (by refine f4 ?_ NBz6.out; exact BKz2.out) hb); replace BKz4 := mk (blk_below (g := gbz0) (o := .cells #[.int .i64 tz17, .int .i64 tz19, .int .i64 tz20, .slice Ao94 tz18.length co94] 28 (0, 0)) (by refine p4 (.int .i64 0) (.int .i64 0) (.int .i64 0) (.slice none 0 0) ?_; exact BKz4.out) hb); replace HB := mk (below_step (by repeat (with_reducible first | exact HB.out | refine below_set ?_ GEz0.out)) hb); (try clear hb); (try clear ho0)) | ((with_reducible refine gate_dst (N := 12) rfl ?_); refine box_event (by rfl) (N := 12) (by rfl) (cs := #[.int .i64 0, .int .i64 0, .int .i64 0, .slice none 0 0]) (t := 28) (by go_simp; done) ?_; intro gbz5 hg w106 hbox hb; replace HOz0 := mk (Kd.Q_below HOz0.out hb); replace HOz1 := mk (Kd.Q_below HOz1.out hb); replace HOz2 := mk (Kd.Q_below HOz2.out hb); replace HOz3 := mk (Kd.Q_below HOz3.out hb); replace HOz4 := mk (Kd.R_below HOz4.out hb); replace HOz9 := mk (Kd.R_below HOz9.out hb); replace HOz11 := mk (Kd.R_below HOz11.out hb); have BKz5 := mk (hbox); have GWz5 := mk ((by rw [hg]; exact (below_size HB.out) : w.heap.size ≤ gbz5)); have GEz5 := mk ((by rw [hg]; exact (below_size HB.out) : w.heap.size ≤ gbz5)); replace HB := mk (below_step HB.out hb); have NBz20 := mk ((by rw [hg]; exact Nat.ne_of_lt (blk_lt BKz0.out) : gbz2 ≠ gbz5)); have NBz25 := mk ((by rw [hg]; exact Nat.ne_of_gt (blk_lt BKz0.out) : gbz5 ≠ gbz2)); replace BKz0 := mk (blk_below BKz0.out hb); have NBz21 := mk ((by rw [hg]; exact Nat.ne_of_lt (blk_lt BKz1.out) : gbz3 ≠ gbz5)); have NBz26 := mk ((by rw [hg]; exact Nat.ne_of_gt (blk_lt BKz1.out) : gbz5 ≠ gbz3)); replace BKz1 := mk (blk_below BKz1.out hb); have NBz22 := mk ((by rw [hg]; exact Nat.ne_of_lt (blk_lt BKz3.out) : gbz4 ≠ gbz5)); have NBz27 := mk ((by rw [hg]; exact Nat.ne_of_gt (blk_lt BKz3.out) : gbz5 ≠ gbz4)); replace BKz3 := mk (blk_below BKz3.out hb); have NBz23 := mk ((by rw [hg]; exact Nat.ne_of_lt (blk_lt BKz2.out) : gbz1 ≠ gbz5)); have NBz28 := mk ((by rw [hg]; exact Nat.ne_of_gt (blk_lt BKz2.out) : gbz5 ≠ gbz1)); replace BKz2 := mk (blk_below BKz2.out hb); have NBz24 := mk ((by rw [hg]; exact Nat.ne_of_lt (blk_lt BKz4.out) : gbz0 ≠ gbz5)); have NBz29 := mk ((by rw [hg]; exact Nat.ne_of_gt (blk_lt BKz4.out) : gbz5 ≠ gbz0)); replace BKz4 := mk (blk_below BKz4.out hb); clear hb hbox hg; have hnb107 := NBz25.out; have hnc107 := NBz20.out; have hnb108 := NBz26.out; have hnc108 := NBz21.out; have hnb109 := NBz27.out; have hnc109 := NBz22.out; have hnb110 := NBz28.out; have hnc110 := NBz23.out; have hnb111 := NBz29.out; have hnc111 := NBz24.out; obtain ⟨hcz112_0, hcz112_1, hcz112_2, hcz112_3, hfz112_0, hfz112_1, hfz112_2, hfz112_3⟩ := c4 BKz5.out; obtain ⟨Ao113, co113, eo113⟩ := Kd.R_slice HOz11.out; subst eo113; have hnb114 := NBz9.out; have hnc114 := NBz5.out; have hnb115 := NBz10.out; have hnc115 := NBz6.out; obtain ⟨hcz116_0, hcz116_1, hcz116_2, hcz116_3, hfz116_0, hfz116_1, hfz116_2, hfz116_3⟩ := c4 BKz4.out; obtain ⟨hcz117_0, hcz117_1, hcz117_2, hcz117_3, hfz117_0, hfz117_1, hfz117_2, -⟩ := c4 BKz1.out; have hfz117_3 := blk_frozen BKz1.out 3) | (go_at_call 43; (with_reducible refine (laws_equalImage.calls kj5 tz17 tz19 tz20 _ _ tz18 tz7 tz8 tz9 _ _ tz1 true _ ?side1 ?side2 ?side3 ?side4 A81.out).mono ?_); (case side1 => refine (Kd.R_reads' (e := 3) (base := w.heap.size) (ok := fun k_ => ((some k_ ≠ (.slice Ao12 tz0.length co12 : Value).ownBlock ∧ (some k_ ≠ (.slice Ao14 tz1.length co14 : Value).ownBlock ∧ (some k_ ≠ (.slice Ao21 tz5.length co21 : Value).ownBlock ∧ some k_ ≠ (.slice Ao30 tz3.length co30 : Value).ownBlock))) ∧ some k_ ≠ (.slice Ao113 tz25.length co113 : Value).ownBlock)) (n := tz18.length) (c := co94) ?_).2.2; exact (by exact (Kd.R_mono (R4 (Kd.R_types HOz9.out BKz5.out (by decide)) (.int .i64 tz22) (.int .i64 tz24) (.int .i64 tz26) (.slice Ao113 tz25.length co113)) (fun _ h_ => h_.1)))); (case side2 => exact (Kd.R_reads' HOz9.out).2.1); (case side3 => refine (Kd.Q_reads' (e := 3) (base := w.heap.size) (ok := fun k_ => ((some k_ ≠ (.slice Ao94 tz18.length co94 : Value).ownBlock ∧ (some k_ ≠ (.slice Ao12 tz0.length co12 : Value).ownBlock ∧ (some k_ ≠ (.slice Ao21 tz5.length co21 : Value).ownBlock ∧ some k_ ≠ (.slice Ao30 tz3.length co30 : Value).ownBlock))) ∧ some k_ ≠ (.slice Ao113 tz25.length co113 : Value).ownBlock)) (n := tz1.length) (c := co14) ?_).2.2; exact (by exact (Kd.Q_mono (Q4 (Kd.Q_types HOz1.out BKz5.out (by decide)) (.int .i64 tz22) (.int .i64 tz24) (.int .i64 tz26) (.slice Ao113 tz25.length co113)) (fun _ h_ => h_.1)))); (case side4 => exact (Kd.Q_reads' HOz1.out).2.1); rintro e w118 ⟨rfl, hb⟩; replace HOz0 := mk (Kd.Q_below (by exact (Kd.Q_mono (Q4 (Kd.Q_types HOz0.out BKz5.out (by decide)) (.int .i64 tz22) (.int .i64 tz24) (.int .i64 tz26) (.slice Ao113 tz25.length co113)) (fun _ h_ => h_.1))) hb); replace HOz1 := mk (Kd.Q_below (by exact (Kd.Q_mono (Q4 (Kd.Q_types HOz1.out BKz5.out (by decide)) (.int .i64 tz22) (.int .i64 tz24) (.int .i64 tz26) (.slice Ao113 tz25.length co113)) (fun _ h_ => h_.1))) hb); replace HOz2 := mk (Kd.Q_below (by exact (Kd.Q_mono (Q4 (Kd.Q_types HOz2.out BKz5.out (by decide)) (.int .i64 tz22) (.int .i64 tz24) (.int .i64 tz26) (.slice Ao113 tz25.length co113)) (fun _ h_ => h_.1))) hb); replace HOz3 := mk (Kd.Q_below (by exact (Kd.Q_mono (Q4 (Kd.Q_types HOz3.out BKz5.out (by decide)) (.int .i64 tz22) (.int .i64 tz24) (.int .i64 tz26) (.slice Ao113 tz25.length co113)) (fun _ h_ => h_.1))) hb); replace HOz4 := mk (Kd.R_below (by exact (Kd.R_mono (R4 (Kd.R_types HOz4.out BKz5.out (by decide)) (.int .i64 tz22) (.int .i64 tz24) (.int .i64 tz26) (.slice Ao113 tz25.length co113)) (fun _ h_ => h_.1))) hb); replace HOz9 := mk (Kd.R_below (by exact (Kd.R_mono (R4 (Kd.R_types HOz9.out BKz5.out (by decide)) (.int .i64 tz22) (.int .i64 tz24) (.int .i64 tz26) (.slice Ao113 tz25.length co113)) (fun _ h_ => h_.1))) hb); replace HOz11 := mk (Kd.R_below (by exact (Kd.R_mono (R4 (Kd.R_types HOz11.out BKz5.out (by decide)) (.int .i64 tz22) (.int .i64 tz24) (.int .i64 tz26) (.slice Ao113 tz25.length co113)) (fun _ h_ => h_.1))) hb); replace BKz0 := mk (blk_below (g := gbz2) (o := .cells #[.int .i64 tz2, .int .i64 tz4, .int .i64 tz6, .slice Ao12 tz0.length co12] 28 (0, 0)) (by refine f4 ?_ NBz20.out; exact BKz0.out) hb); replace BKz1 := mk (blk_below (g := gbz3) (o := .cells #[.int .i64 tz7, .int .i64 tz8, .int .i64 tz9, .slice Ao14 tz1.length co14] 28 (0, 0)) (by refine f4 ?_ NBz21.out; exact BKz1.out) hb); replace BKz3 := mk (blk_below (g := gbz4) (o := .cells #[.int .i64 tz13, .int .i64 tz14, .int .i64 tz15, .slice Ao21 tz5.length co21] 28 (0, 0)) (by refine f4 ?_ NBz22.out; exact BKz3.out) hb); replace BKz2 := mk (blk_below (g := gbz1) (o := .cells #[.int .i64 tz10, .int .i64 tz11, .int .i64 tz12, .slice Ao30 tz3.length co30] 28 (0, 0)) (by refine f4 ?_ NBz23.out; exact BKz2.out) hb); replace BKz4 := mk (blk_below (g := gbz0) (o := .cells #[.int .i64 tz17, .int .i64 tz19, .int .i64 tz20, .slice Ao94 tz18.length co94] 28 (0, 0)) (by refine f4 ?_ NBz24.out; exact BKz4.out) hb); replace BKz5 := mk (blk_below (g := gbz5) (o := .cells #[.int .i64 tz22, .int .i64 tz24, .int .i64 tz26, .slice Ao113 tz25.length co113] 28 (0, 0)) (by refine p4 (.int .i64 0) (.int .i64 0) (.int .i64 0) (.slice none 0 0) ?_; exact BKz5.out) hb); replace HB := mk (below_step (by repeat (with_reducible first | exact HB.out | refine below_set ?_ GEz5.out)) hb); (try clear hb); obtain ⟨hcz119_0, hcz119_1, hcz119_2, hcz119_3, hfz119_0, hfz119_1, hfz119_2, hfz119_3⟩ := c4 BKz5.out; obtain ⟨hcz120_0, hcz120_1, hcz120_2, hcz120_3, hfz120_0, hfz120_1, hfz120_2, -⟩ := c4 BKz0.out; have hfz120_3 := blk_frozen BKz0.out 3) | (go_at_call 43; (with_reducible refine (laws_equalImage.calls kj5 tz22 tz24 tz26 _ _ tz25 tz2 tz4 tz6 _ _ tz0 tz23 _ ?side1 ?side2 ?side3 ?side4 A84.out).mono ?_); (case side1 => repeat (exact (Kd.R_reads' HOz11.out).2.2)); (case side2 => exact (Kd.R_reads' HOz11.out).2.1); (case side3 => repeat (exact (Kd.Q_reads' HOz0.out).2.2)); (case side4 => exact (Kd.Q_reads' HOz0.out).2.1); rintro e w121 ⟨rfl, hb⟩; replace HOz0 := mk (Kd.Q_below HOz0.out hb); replace HOz1 := mk (Kd.Q_below HOz1.out hb); replace HOz2 := mk (Kd.Q_below HOz2.out hb); replace HOz3 := mk (Kd.Q_below HOz3.out hb); replace HOz4 := mk (Kd.R_below HOz4.out hb); replace HOz9 := mk (Kd.R_below HOz9.out hb); replace HOz11 := mk (Kd.R_below HOz11.out hb); replace BKz0 := mk (blk_below BKz0.out hb); replace BKz1 := mk (blk_below BKz1.out hb); replace BKz3 := mk (blk_below BKz3.out hb); replace BKz2 := mk (blk_below BKz2.out hb); replace BKz4 := mk (blk_below BKz4.out hb); replace BKz5 := mk (blk_below BKz5.out hb); replace HB := mk (below_step HB.out hb); (try clear hb)))
      go_ret
      exact ⟨by rfl, by exact HB.out⟩
     replace c83 := Bool.eq_false_iff.mpr c83
     subst c83
     have H1 : (some false) = some r := by rw [if_neg (show ¬ (false = true) by decide)] at H; exact H
     clear H
     have H := H1
     clear H1
     exact absurd ((Option.some.inj H).trans HRT.out) (by decide)
    replace c82 := Bool.eq_false_iff.mpr c82
    subst c82
    have H1 : (some false) = some r := by rw [if_neg (show ¬ (false = true) by decide)] at H; exact H
    clear H
    have H := H1
    clear H1
    exact absurd ((Option.some.inj H).trans HRT.out) (by decide)
   replace c80 := Bool.eq_false_iff.mpr c80
   subst c80
   have H1 : (some false) = some r := by rw [if_neg (show ¬ (false = true) by decide)] at H; exact H
   clear H
   have H := H1
   clear H1
   exact absurd ((Option.some.inj H).trans HRT.out) (by decide)

def laws_FnPatchImage.Pure : Prop := ∀ (l0 : List Int), l0.length ≤ maxLen → l0.length * 1 ≤ 140737488351232 → (∀ x ∈ l0, (Lit.int .u8 x).wf = true) → ∃ k, laws_FnPatchImage.f k l0 = some true
theorem laws_FnPatchImage.walk (P : laws_FnPatchImage.Pure) (a0 : Option Addr) (len0 cap0 : Nat) (z0 : List Int) (w : World) (w0 : (a0 = none ∧ len0 = 0 ∧ cap0 = 0 ∧ z0 = []) ∨ ∃ x, a0 = some x ∧ len0 ≤ cap0 ∧ cap0 ≤ maxLen ∧ z0.length = cap0 ∧ (∀ i, i < z0.length → w.cell? (x.add i) = some (.int .u8 (z0.getD i 0))) ∧ ∀ n ∈ z0, (Lit.int .u8 n).wf = true) (y0 : len0 * 1 ≤ 140737488351232) :
  Calls Try.prog 10 #[.slice a0 len0 cap0] w fun e w' => e = .returned (.bool true) ∧ Below w.heap.size w w' := by
 obtain ⟨l0, rfl, hr0, hm0, hw0, hc0⟩ := ReadsInt.ofRowC w0
 obtain ⟨k, h⟩ := P l0 hm0 y0 hw0
 refine (laws_FnPatchImage.calls k _ _ l0 true w (Kd.C_of_reads (d := (0 : Int)) (h1 := fun _ => rfl) hr0) hc0 h rfl).mono ?_
 rintro e w' ⟨rfl, hd⟩
 exact ⟨rfl, hd⟩

end Go.Proofs.Ytbgohbinonkhfaa.Q

/- A pixel's numbers read out of an image that is valid. -/
namespace Go.Proofs.Ytbgohbinonkhfaa.Q
open Go.RowKit Go.Proofs.YtbgohbinonkhfaaW.PrintWords Go.Proofs.YtbgohbinonkhfaaW.PrintLast Go.Proofs.YtbgohbinonkhfaaW.PrintMore
attribute [local go_sem] max2_int min2_int max_two min_two max_three min_three max_four min_four
set_option linter.unusedVariables false
set_option linter.unusedSimpArgs false
open Go.Proofs.Ytbgohbinonkhfaa.Pure

def pxAt (a p : Int) (d : List Int) (x y : Nat) : List Int := pixT d (pixJ a p x y) p
end Go.Proofs.Ytbgohbinonkhfaa.Q

/- Images as pixels: lists of numbers cut into equal parts. -/
namespace Go.Proofs.Ytbgohbinonkhfaa.Pure
open Go.RowKit Go.Proofs.Ytbgohbinonkhfaa.Q Go.Proofs.YtbgohbinonkhfaaW.PrintWords Go.Proofs.YtbgohbinonkhfaaW.PrintLast Go.Proofs.YtbgohbinonkhfaaW.PrintMore
set_option linter.unusedVariables false
set_option linter.unusedSimpArgs false

def nx (n : Nat) (d : List Int) (i : Nat) : List Int := (d.drop (i * n)).take n
theorem nx_length {n m : Nat} {d : List Int} (hd : d.length = m * n) {i : Nat} (hi : i < m) : (nx n d i).length = n := by
 unfold nx
 have h : (i + 1) * n ≤ m * n := Nat.mul_le_mul_right n hi
 rw [Nat.add_mul, Nat.one_mul] at h
 rw [List.length_take, List.length_drop, hd]
 omega
theorem fm_length (f : Nat → List Int) (n : Nat) : ∀ m, (∀ i, i < m → (f i).length = n) → ((List.range m).flatMap f).length = m * n := by
 intro m
 induction m with
 | zero => intro _; simp
 | succ m ih =>
  intro h
  rw [List.range_succ, List.flatMap_append, List.length_append, ih (fun i hi => h i (by omega))]
  simp [h m (by omega), Nat.add_mul]
theorem fm_get (f : Nat → List Int) (n : Nat) : ∀ m, (∀ i, i < m → (f i).length = n) → ∀ i, i < m → nx n ((List.range m).flatMap f) i = f i := by
 intro m
 induction m with
 | zero => intro _ i hi; omega
 | succ m ih =>
  intro h i hi
  have hl := fm_length f n m (fun i hi => h i (by omega))
  rw [List.range_succ, List.flatMap_append]
  unfold nx
  by_cases c : i < m
  ·have h1 : (i + 1) * n ≤ m * n := Nat.mul_le_mul_right n c
   rw [Nat.add_mul, Nat.one_mul] at h1
   rw [List.drop_append_of_le_length (by omega), List.take_append_of_le_length (by rw [List.length_drop]; omega)]
   exact ih (fun i hi => h i (by omega)) i c
  ·have : i = m := by omega
   subst this
   rw [← hl, List.drop_left]
   simp only [List.flatMap_cons, List.flatMap_nil, List.append_nil]
   exact List.take_of_length_le (by rw [h i (by omega)]; exact Nat.le_refl _)
theorem fm_cut (n : Nat) : ∀ (m : Nat) (d : List Int), d.length = m * n → (List.range m).flatMap (nx n d) = d := by
 intro m
 induction m with
 | zero => intro d hd; simp at hd; simp [hd]
 | succ m ih =>
  intro d hd
  rw [Nat.add_mul, Nat.one_mul] at hd
  have h1 : (List.range m).flatMap (nx n d) = (List.range m).flatMap (nx n (d.take (m * n))) := by
   rw [List.flatMap_def, List.flatMap_def]
   congr 1
   refine List.map_congr_left (fun i hi => ?_)
   have hi' := List.mem_range.1 hi
   have h1 : (i + 1) * n ≤ m * n := Nat.mul_le_mul_right n hi'
   rw [Nat.add_mul, Nat.one_mul] at h1
   unfold nx
   rw [List.drop_take, List.take_take, Nat.min_eq_left (by omega)]
  rw [List.range_succ, List.flatMap_append, h1, ih _ (by rw [List.length_take]; omega)]
  simp only [List.flatMap_cons, List.flatMap_nil, List.append_nil]
  unfold nx
  rw [List.take_of_length_le (l := d.drop (m * n)) (by rw [List.length_drop]; omega), List.take_append_drop]
theorem ext_nx {n m : Nat} {d e : List Int} (hd : d.length = m * n) (he : e.length = m * n) (h : ∀ i, i < m → nx n d i = nx n e i) : d = e := by
 rw [← fm_cut n m d hd, ← fm_cut n m e he, List.flatMap_def, List.flatMap_def]
 congr 1
 exact List.map_congr_left (fun i hi => h i (List.mem_range.1 hi))
theorem imgD_congr {f g : Nat → Nat → List Int} {a b : Nat} (h : ∀ x y, x < a → y < b → f x y = g x y) : imgD f a b = imgD g a b := by
 unfold imgD rowD
 rw [List.flatMap_def, List.flatMap_def]
 congr 1
 refine List.map_congr_left (fun y hy => ?_)
 rw [List.flatMap_def, List.flatMap_def]
 congr 1
 exact List.map_congr_left (fun x hx => h x y (List.mem_range.1 hx) (List.mem_range.1 hy))
theorem rowD_length {px : Nat → Nat → List Int} {a n y : Nat} (h : ∀ x, x < a → (px x y).length = n) : (rowD px a y).length = a * n := fm_length _ n a h
theorem imgD_length {px : Nat → Nat → List Int} {a b n : Nat} (h : ∀ x y, x < a → y < b → (px x y).length = n) : (imgD px a b).length = (b * a) * n := by
 rw [Nat.mul_assoc]
 exact fm_length _ (a * n) b (fun y hy => rowD_length (fun x hx => h x y hx hy))
theorem nx_imgD {px : Nat → Nat → List Int} {a b n : Nat} (h : ∀ x y, x < a → y < b → (px x y).length = n) {x y : Nat} (hx : x < a) (hy : y < b) : nx n (imgD px a b) (y * a + x) = px x y := by
 have h1 := fm_get (rowD px a) (a * n) b (fun y hy => rowD_length (fun x hx => h x y hx hy)) y hy
 have h2 := fm_get (fun x => px x y) n a (fun x hx => h x y hx hy) x hx
 have h3 : (x + 1) * n ≤ a * n := Nat.mul_le_mul_right n hx
 rw [Nat.add_mul, Nat.one_mul] at h3
 show nx n ((List.range b).flatMap (rowD px a)) (y * a + x) = px x y
 rw [← h2]
 show _ = nx n (rowD px a y) x
 rw [← h1]
 unfold nx
 rw [List.drop_take, List.take_take, Nat.min_eq_left (by omega), List.drop_drop, Nat.add_mul, Nat.mul_assoc]
theorem lin_lt {a b x y : Nat} (hx : x < a) (hy : y < b) : y * a + x < b * a := by
 have : (y + 1) * a ≤ b * a := Nat.mul_le_mul_right a hy
 rw [Nat.add_mul, Nat.one_mul] at this
 omega
theorem lin_ne {a x y x' y' : Nat} (hx : x < a) (hx' : x' < a) (h : y * a + x = y' * a + x') : x = x' ∧ y = y' := by
 have ha : 0 < a := by omega
 have e1 := congrArg (· % a) h
 have e2 := congrArg (· / a) h
 simp only [Nat.mul_comm _ a, Nat.mul_add_mod, Nat.mul_add_div ha, Nat.mod_eq_of_lt hx, Nat.mod_eq_of_lt hx', Nat.div_eq_of_lt hx, Nat.div_eq_of_lt hx', Nat.add_zero] at e1 e2
 exact ⟨e1, e2⟩
theorem lin_of {a b i : Nat} (h : i < b * a) : i % a < a ∧ i / a < b ∧ (i / a) * a + i % a = i := by
 have ha : 0 < a := by
  rcases Nat.eq_zero_or_pos a with rfl | h'
  ·simp at h
  ·exact h'
 refine ⟨Nat.mod_lt _ ha, (Nat.div_lt_iff_lt_mul ha).2 h, ?_⟩
 rw [Nat.mul_comm]; exact Nat.div_add_mod i a
theorem ext_img {n a b : Nat} {d e : List Int} (hd : d.length = (b * a) * n) (he : e.length = (b * a) * n) (h : ∀ x y, x < a → y < b → nx n d (y * a + x) = nx n e (y * a + x)) : d = e := by
 refine ext_nx hd he (fun i hi => ?_)
 obtain ⟨h1, h2, h3⟩ := lin_of hi
 rw [← h3]
 exact h _ _ h1 h2
theorem imgD_nx {n a b : Nat} {d : List Int} (hd : d.length = (b * a) * n) : imgD (fun x y => nx n d (y * a + x)) a b = d := by
 have hl : ∀ x y, x < a → y < b → (nx n d (y * a + x)).length = n := fun x y hx hy => nx_length hd (lin_lt hx hy)
 exact ext_img (imgD_length hl) hd (fun x y hx hy => nx_imgD hl hx hy)
theorem nx_laid {n m : Nat} {d ys : List Int} (hd : d.length = m * n) (hy : ys.length = n) {j : Nat} (hj : j < m) {i : Nat} (hi : i < m) : nx n (laidOver d (j * n) ys) i = if i = j then ys else nx n d i := by
 have hj1 : (j + 1) * n ≤ m * n := Nat.mul_le_mul_right n hj
 have hi1 : (i + 1) * n ≤ m * n := Nat.mul_le_mul_right n hi
 rw [Nat.add_mul, Nat.one_mul] at hj1 hi1
 unfold nx laidOver
 have hlt : (d.take (j * n)).length = j * n := by rw [List.length_take]; omega
 by_cases c : i = j
 ·subst c
  rw [if_pos rfl]
  have e1 : (d.take (i * n) ++ (ys ++ d.drop (i * n + ys.length))).drop (i * n) = ys ++ d.drop (i * n + ys.length) := by
   rw [List.drop_append, List.drop_eq_nil_of_le (by omega), hlt, Nat.sub_self, List.drop_zero, List.nil_append]
  rw [e1, ← hy, List.take_left]
 ·rw [if_neg c]
  by_cases c2 : i < j
  ·have h1 : (i + 1) * n ≤ j * n := Nat.mul_le_mul_right n c2
   rw [Nat.add_mul, Nat.one_mul] at h1
   rw [List.drop_append_of_le_length (by omega), List.take_append_of_le_length (by rw [List.length_drop]; omega), List.drop_take, List.take_take, Nat.min_eq_left (by omega)]
  ·have h1 : (j + 1) * n ≤ i * n := Nat.mul_le_mul_right n (by omega)
   rw [Nat.add_mul, Nat.one_mul] at h1
   rw [← List.append_assoc, List.drop_append, List.drop_eq_nil_of_le (by rw [List.length_append, hlt, hy]; omega), List.nil_append, List.drop_drop, List.length_append, hlt, hy]
   congr 2
   omega
theorem nat_of {a b p : Int} {d : List Int} (hv : validI a b p d = true) : ∃ an bn pn : Nat, a = an ∧ b = bn ∧ p = pn ∧ 1 ≤ an ∧ an ≤ 16 ∧ 1 ≤ bn ∧ bn ≤ 16 ∧ 1 ≤ pn ∧ pn ≤ 4 ∧ d.length = (bn * an) * pn := by
 obtain ⟨hs, hl, _⟩ := (validI_iff a b p d).1 hv
 obtain ⟨an, rfl⟩ := Int.eq_ofNat_of_zero_le (show 0 ≤ a by omega)
 obtain ⟨bn, rfl⟩ := Int.eq_ofNat_of_zero_le (show 0 ≤ b by omega)
 obtain ⟨pn, rfl⟩ := Int.eq_ofNat_of_zero_le (show 0 ≤ p by omega)
 refine ⟨an, bn, pn, rfl, rfl, rfl, by omega, by omega, by omega, by omega, by omega, by omega, ?_⟩
 have : (d.length : Int) = ((an * bn * pn : Nat) : Int) := by rw [hl]; push_cast; rfl
 rw [Nat.mul_comm bn an]
 exact Int.ofNat.inj this
theorem small {an bn pn : Nat} (h1 : an ≤ 16) (h2 : bn ≤ 16) (h3 : pn ≤ 4) : (bn * an) * pn ≤ 1024 := by
 have := Nat.mul_le_mul (Nat.mul_le_mul h2 h1) h3
 omega
theorem pixJ_nat {an bn pn x y : Nat} (h1 : an ≤ 16) (h2 : bn ≤ 16) (h3 : pn ≤ 4) (hx : x < an) (hy : y < bn) : pixJ an pn x y = (((y * an + x) * pn : Nat) : Int) ∧ (y * an + x) * pn + pn ≤ (bn * an) * pn := by
 have hl := lin_lt hx hy
 have hm : (y * an + x + 1) * pn ≤ (bn * an) * pn := Nat.mul_le_mul_right pn hl
 rw [Nat.add_mul, Nat.one_mul] at hm
 have hs := small h1 h2 h3
 have hya : y * an ≤ 16 * 16 := Nat.mul_le_mul (by omega) (by omega)
 refine ⟨?_, hm⟩
 unfold pixJ
 have e1 : ((y : Int) * (an : Int)) = ((y * an : Nat) : Int) := by push_cast; rfl
 rw [e1, w64 (x := ((y * an : Nat) : Int)) (by omega) (by omega)]
 have e2 : ((y * an : Nat) : Int) + (x : Int) = ((y * an + x : Nat) : Int) := by push_cast; rfl
 rw [e2, w64 (x := ((y * an + x : Nat) : Int)) (by omega) (by omega)]
 have e3 : ((y * an + x : Nat) : Int) * (pn : Int) = (((y * an + x) * pn : Nat) : Int) := by push_cast; rfl
 rw [e3, w64 (by omega) (by omega)]
theorem pxAt_nat {an bn pn x y : Nat} (h1 : an ≤ 16) (h2 : bn ≤ 16) (h3 : pn ≤ 4) (hx : x < an) (hy : y < bn) (d : List Int) : pxAt an pn d x y = nx pn d (y * an + x) := by
 obtain ⟨hj, hm⟩ := pixJ_nat h1 h2 h3 hx hy
 have hs := small h1 h2 h3
 unfold pxAt pixT nx
 rw [hj, w64 (by omega) (by omega)]
 have : ((((y * an + x) * pn : Nat) : Int) + (pn : Int)).toNat = (y * an + x) * pn + pn := by omega
 rw [this, Int.toNat_natCast, List.drop_take]
 congr 1
 omega

/- What the reference does with pixels: reads, writes, parts and pastes. -/

theorem ev_run {σ ρ : Type} (n : Nat) (L : Nat → Nat → σ → Option ρ) (E : σ → Nat → Option ρ) (Inv : Nat → σ → Prop)
  (step : ∀ i s, i < n → Inv i s → ∃ s', Inv (i + 1) s' ∧ ∀ r, Ev (fun k => L k (i + 1) s') r → Ev (fun k => L k i s) r)
  (last : ∀ s, Inv n s → ∀ r, Ev (E s) r → Ev (fun k => L k n s) r) :
  ∀ d i s, i + d = n → Inv i s → ∃ s', Inv n s' ∧ ∀ r, Ev (E s') r → Ev (fun k => L k i s) r := by
 intro d
 induction d with
 | zero =>
  intro i s hi hinv
  have : i = n := by omega
  subst this
  exact ⟨s, hinv, last s hinv⟩
 | succ d ih =>
  intro i s hi hinv
  obtain ⟨s1, h1, h2⟩ := step i s (by omega) hinv
  obtain ⟨s2, h3, h4⟩ := ih (i + 1) s1 (by omega) h1
  exact ⟨s2, h3, fun r hr => h2 r (h4 r hr)⟩
theorem copyInts_px (l : List Int) (hl : l.length ≤ 1000000) : spec_copyInts.f l = some l := by
 unfold spec_copyInts.f
 simp only [Option.bind_some]
 rw [if_pos (by simp; omega)]
 simp
theorem laid_set (d ys : List Int) (j i : Nat) (hi : i < ys.length) (hj : j + ys.length ≤ d.length) : (laidOver d j (ys.take i)).set (j + i) ys[i] = laidOver d j (ys.take (i + 1)) := by
 have h1 : (ys.take i).length = i := by rw [List.length_take]; omega
 have h2 : (ys.take (i + 1)).length = i + 1 := by rw [List.length_take]; omega
 have h3 : (d.take j).length = j := by rw [List.length_take]; omega
 unfold laidOver
 rw [h1, h2, List.set_append_right _ _ (by omega), h3, Nat.add_sub_cancel_left, List.set_append_right _ _ (by omega), h1, Nat.sub_self, List.drop_eq_getElem_cons (show j + i < d.length by omega), List.set_cons_zero, List.take_succ_eq_append_getElem hi, List.append_assoc]
 rfl
theorem setPixel_ev {an bn pn x y : Nat} (h1 : an ≤ 16) (h2 : bn ≤ 16) (h3 : pn ≤ 4) (hx : x < an) (hy : y < bn) (d ys : List Int) (hd : d.length = (bn * an) * pn) (hys : ys.length = pn) :
  Ev (fun k => spec_setPixel.f k an bn pn d x y ys) (laidOver d ((y * an + x) * pn) ys) := by
 obtain ⟨hj, hm⟩ := pixJ_nat h1 h2 h3 hx hy
 have hs := small h1 h2 h3
 have hJ : wrap64 ((wrap64 ((wrap64 ((y : Int) * (an : Int))) + (x : Int))) * (pn : Int)) = (((y * an + x) * pn : Nat) : Int) := hj
 generalize hjj : (y * an + x) * pn = j at *
 have HJ := Aside0.mk hJ
 clear hJ hj hjj
 have key := ev_up pn (fun k i s => spec_setPixel.l0 k (x : Int) (y : Int) ys (i : Int) an bn pn s) (fun i s => s = laidOver d j (ys.take i)) (fun _ _ => laidOver d j ys)
  (by
   intro i s hi hinv
   subst hinv
   right
   refine ⟨_, fun k => ?_, laid_set d ys j i (by omega) (by omega), rfl⟩
   simp only [spec_setPixel.l0]
   have e : (((j : Nat) : Int) + (i : Int)) = ((j + i : Nat) : Int) := by push_cast; rfl
   have hl : (laidOver d j (ys.take i)).length = d.length := laidOver_length d j _ (by rw [List.length_take]; omega)
   rw [HJ.out, e, w64 (x := ((j + i : Nat) : Int)) (by omega) (by omega), hl, if_pos (by omega), if_pos (by omega), if_pos (by omega), if_pos (by omega), if_pos (by omega), rd_nat ys i (by omega), w64n i (by omega), Int.toNat_natCast])
  (by
   intro s hinv
   subst hinv
   refine Ev.step (f := fun _ => some (laidOver d j ys)) (fun k => ?_) (Ev.now _)
   simp only [spec_setPixel.l0]
   rw [if_neg (by omega), List.take_of_length_le (by omega)])
  pn 0 d (by omega) (by unfold laidOver; simp)
 unfold spec_setPixel.f
 exact key
theorem pixelAt_eq {an bn pn x y : Nat} (h1 : an ≤ 16) (h2 : bn ≤ 16) (h3 : pn ≤ 4) (hx : x < an) (hy : y < bn) (d : List Int) (hd : d.length = (bn * an) * pn) : spec_pixelAt.f an bn pn d x y = some (nx pn d (y * an + x)) := by
 obtain ⟨hj, hm⟩ := pixJ_nat h1 h2 h3 hx hy
 have hs := small h1 h2 h3
 have hJ : wrap64 ((wrap64 ((wrap64 ((y : Int) * (an : Int))) + (x : Int))) * (pn : Int)) = (((y * an + x) * pn : Nat) : Int) := hj
 have e : ((((y * an + x) * pn : Nat) : Int) + (pn : Int)) = (((y * an + x) * pn + pn : Nat) : Int) := by push_cast; rfl
 have HJ := Aside0.mk hJ
 clear hJ hj
 unfold spec_pixelAt.f nx
 generalize (y * an + x) * pn = j at *
 rw [HJ.out, e, w64 (x := ((j + pn : Nat) : Int)) (by omega) (by omega), if_pos (by omega), if_pos (by omega), if_pos (by omega), Int.toNat_natCast, Int.toNat_natCast, copyInts_px _ (by rw [List.length_drop, List.length_take]; omega)]
 simp only [Option.bind_some]
 congr 1
 rw [List.drop_take]
 congr 1
 omega
theorem newImg_eq {wn hn pn : Nat} (h1 : wn ≤ 16) (h2 : hn ≤ 16) (h3 : pn ≤ 4) : spec_newImage.f wn hn pn = some ((wn : Int), (hn : Int), (pn : Int), List.replicate ((hn * wn) * pn) 0) := by
 have hs := small h1 h2 h3
 have hw : hn * wn ≤ 16 * 16 := Nat.mul_le_mul h2 h1
 have e1 : (wn : Int) * (hn : Int) = ((hn * wn : Nat) : Int) := by rw [Nat.mul_comm]; push_cast; rfl
 have e2 : ((hn * wn : Nat) : Int) * (pn : Int) = (((hn * wn) * pn : Nat) : Int) := by push_cast; rfl
 unfold spec_newImage.f
 rw [e1, w64 (x := ((hn * wn : Nat) : Int)) (by omega) (by omega), e2, w64 (by omega) (by omega), if_pos (by omega), Int.toNat_natCast, if_pos (by omega)]
def cropD (an pn : Nat) (d : List Int) (X Y wn hn : Nat) : List Int := imgD (fun x y => nx pn d ((Y + y) * an + (X + x))) wn hn
theorem cropD_len {an bn pn X Y wn hn : Nat} {d : List Int} (hd : d.length = (bn * an) * pn) (hX : X + wn ≤ an) (hY : Y + hn ≤ bn) : ∀ x y, x < wn → y < hn → (nx pn d ((Y + y) * an + (X + x))).length = pn := fun x y hx hy => nx_length hd (lin_lt (by omega) (by omega))
theorem crop_ev {an bn pn X Y wn hn : Nat} (h1 : an ≤ 16) (h2 : bn ≤ 16) (h3 : pn ≤ 4) (hX : X + wn ≤ an) (hY : Y + hn ≤ bn) (d : List Int) (hd : d.length = (bn * an) * pn) :
  Ev (fun k => spec_crop.f k an bn pn d X Y wn hn) ((wn : Int), (hn : Int), (pn : Int), cropD an pn d X Y wn hn) := by
 unfold spec_crop.f
 refine ev_now (newImg_eq (by omega) (by omega) h3) ?_
 have hlen := cropD_len hd hX hY
 have hfl : (cropD an pn d X Y wn hn).length = (hn * wn) * pn := imgD_length hlen
 have inner : ∀ (r : Nat), r < hn → ∀ s : List Int, (s.length = (hn * wn) * pn ∧ ∀ x y, x < wn → y < r → nx pn s (y * wn + x) = nx pn d ((Y + y) * an + (X + x))) →
   ∃ s' : List Int, (s'.length = (hn * wn) * pn ∧ ∀ x y, x < wn → y < r + 1 → nx pn s' (y * wn + x) = nx pn d ((Y + y) * an + (X + x))) ∧
    ∀ res, Ev (fun k => spec_crop.l0 k X Y wn hn ((r + 1 : Nat) : Int) an bn pn d wn hn pn s') res → Ev (fun k => spec_crop.l1 k X Y wn hn (r : Int) 0 an bn pn d wn hn pn s) res := by
  intro r hr s hs
  obtain ⟨s', h4, h5⟩ := ev_run wn (fun k c s => spec_crop.l1 k X Y wn hn (r : Int) (c : Int) an bn pn d wn hn pn s) (fun s k => spec_crop.l0 k X Y wn hn ((r + 1 : Nat) : Int) an bn pn d wn hn pn s)
   (fun c s => s.length = (hn * wn) * pn ∧ (∀ x y, x < wn → y < r → nx pn s (y * wn + x) = nx pn d ((Y + y) * an + (X + x))) ∧ ∀ x, x < c → nx pn s (r * wn + x) = nx pn d ((Y + r) * an + (X + x)))
   (by
    intro c s hc ⟨hsl, i1, i2⟩
    have hyl : (nx pn d ((Y + r) * an + (X + c))).length = pn := hlen c r hc hr
    have hlin := lin_lt hc hr
    have hm : (r * wn + c + 1) * pn ≤ (hn * wn) * pn := Nat.mul_le_mul_right pn hlin
    rw [Nat.add_mul, Nat.one_mul] at hm
    refine ⟨laidOver s ((r * wn + c) * pn) (nx pn d ((Y + r) * an + (X + c))), ⟨by rw [laidOver_length _ _ _ (by rw [hyl, hsl]; exact hm)]; exact hsl, ?_, ?_⟩, ?_⟩
    ·intro x y hx hy
     rw [nx_laid hsl hyl hlin (lin_lt hx (by omega)), if_neg (fun e => by have := (lin_ne hx hc e).2; omega)]
     exact i1 x y hx hy
    ·intro x hx
     rw [nx_laid hsl hyl hlin (lin_lt (by omega) hr)]
     by_cases e : x = c
     ·subst e; rw [if_pos rfl]
     ·rw [if_neg (by omega)]; exact i2 x (by omega)
    ·intro res hres
     refine Ev.step (f := fun k => (spec_pixelAt.f an bn pn d ((X + c : Nat) : Int) ((Y + r : Nat) : Int)).bind fun t => (spec_setPixel.f k wn hn pn s (c : Int) (r : Int) t).bind fun u => spec_crop.l1 k X Y wn hn (r : Int) ((c + 1 : Nat) : Int) an bn pn d wn hn pn u) (fun k => ?_) (ev_now (pixelAt_eq h1 h2 h3 (by omega) (by omega) d hd) (ev_bind (setPixel_ev (by omega) (by omega) h3 hc hr s _ hsl hyl) hres))
     simp only [spec_crop.l1]
     rw [if_pos (by omega), w64 (x := (X : Int) + (c : Int)) (by omega) (by omega), w64 (x := (Y : Int) + (r : Int)) (by omega) (by omega), w64n c (by omega)]
     push_cast
     rfl)
   (by
    intro s _ res hres
    refine Ev.step (fun k => ?_) hres
    simp only [spec_crop.l1]
    rw [if_neg (by omega), w64n r (by omega)])
   wn 0 s (by omega) ⟨hs.1, hs.2, fun x hx => by omega⟩
  refine ⟨s', ⟨h4.1, fun x y hx hy => ?_⟩, h5⟩
  by_cases e : y = r
  ·subst e; exact h4.2.2 x hx
  ·exact h4.2.1 x y hx (by omega)
 obtain ⟨s', h4, h5⟩ := ev_run hn (fun k r s => spec_crop.l0 k X Y wn hn (r : Int) an bn pn d wn hn pn s) (fun s _ => some ((wn : Int), (hn : Int), (pn : Int), s))
  (fun r s => s.length = (hn * wn) * pn ∧ ∀ x y, x < wn → y < r → nx pn s (y * wn + x) = nx pn d ((Y + y) * an + (X + x)))
  (by
   intro r s hr hs
   obtain ⟨s', i1, i2⟩ := inner r hr s hs
   refine ⟨s', i1, fun res hres => Ev.step (fun k => ?_) (i2 res hres)⟩
   simp only [spec_crop.l0]
   rw [if_pos (by omega)])
  (by
   intro s _ res hres
   refine Ev.step (fun k => ?_) hres
   simp only [spec_crop.l0]
   rw [if_neg (by omega)])
  hn 0 (List.replicate ((hn * wn) * pn) 0) (by omega) ⟨by simp, fun x y hx hy => by omega⟩
 have e : s' = cropD an pn d X Y wn hn := ext_img h4.1 hfl (fun x y hx hy => by rw [h4.2 x y hx hy]; unfold cropD; rw [nx_imgD hlen hx hy])
 subst e
 exact h5 _ (Ev.now _)
def pastePx (an pn : Nat) (d : List Int) (X Y : Int) (wn hn : Nat) (e : List Int) (x y : Nat) : List Int :=
 if X ≤ (x : Int) ∧ (x : Int) < X + wn ∧ Y ≤ (y : Int) ∧ (y : Int) < Y + hn then nx pn e (((y : Int) - Y).toNat * wn + ((x : Int) - X).toNat) else nx pn d (y * an + x)
theorem pastePx_len {an bn pn wn hn : Nat} {d e : List Int} {X Y : Int} (hd : d.length = (bn * an) * pn) (he : e.length = (hn * wn) * pn) : ∀ x y, x < an → y < bn → (pastePx an pn d X Y wn hn e x y).length = pn := by
 intro x y hx hy
 unfold pastePx
 split
 ·exact nx_length he (lin_lt (by omega) (by omega))
 ·exact nx_length hd (lin_lt hx hy)
theorem onImage_eq {an bn : Nat} (h1 : 1 ≤ an ∧ an ≤ 16) (h2 : 1 ≤ bn ∧ bn ≤ 16) (p : Int) (d : List Int) (x y : Int) : spec_onImage.f an bn p d x y = some (decide (0 ≤ x ∧ x < an ∧ 0 ≤ y ∧ y < bn)) := by
 unfold spec_onImage.f
 rw [w64 (x := (an : Int) - 1) (by omega) (by omega), w64 (x := (bn : Int) - 1) (by omega) (by omega), spec_inRangeI_eq, spec_inRangeI_eq]
 simp only [Option.bind_some]
 by_cases c : 0 ≤ x ∧ x ≤ (an : Int) - 1
 ·rw [if_pos (by simpa using c)]; congr 1; rw [Bool.eq_iff_iff]; simp; omega
 ·rw [if_neg (by simpa using c), decide_eq_false (by omega)]
theorem paste_ev {an bn pn wn hn : Nat} {X Y : Int} (h1 : 1 ≤ an ∧ an ≤ 16) (h2 : 1 ≤ bn ∧ bn ≤ 16) (h3 : pn ≤ 4) (h4 : wn ≤ 16) (h5 : hn ≤ 16) (hX : -16 ≤ X ∧ X ≤ 16) (hY : -16 ≤ Y ∧ Y ≤ 16) (d e : List Int) (hd : d.length = (bn * an) * pn) (he : e.length = (hn * wn) * pn) :
  Ev (fun k => spec_paste.f k an bn pn d X Y wn hn pn e) (imgD (pastePx an pn d X Y wn hn e) an bn) := by
 unfold spec_paste.f
 have hlen := pastePx_len (X := X) (Y := Y) hd he
 let I : Nat → Nat → List Int → Prop := fun r c s => s.length = (bn * an) * pn ∧ ∀ x y : Nat, x < an → y < bn → nx pn s (y * an + x) = if X ≤ (x : Int) ∧ (x : Int) < X + wn ∧ Y ≤ (y : Int) ∧ (y : Int) < Y + hn ∧ ((y : Int) < Y + r ∨ ((y : Int) = Y + r ∧ (x : Int) < X + c)) then nx pn e (((y : Int) - Y).toNat * wn + ((x : Int) - X).toNat) else nx pn d (y * an + x)
 have inner : ∀ (r : Nat), r < hn → ∀ s : List Int, I r 0 s → ∃ s' : List Int, I (r + 1) 0 s' ∧
    ∀ res, Ev (fun k => spec_paste.l0 k X Y ((r + 1 : Nat) : Int) an bn pn s' wn hn pn e) res → Ev (fun k => spec_paste.l1 k X Y (r : Int) 0 an bn pn s wn hn pn e) res := by
  intro r hr s hs
  obtain ⟨s', i4, i5⟩ := ev_run wn (fun k c s => spec_paste.l1 k X Y (r : Int) (c : Int) an bn pn s wn hn pn e) (fun s k => spec_paste.l0 k X Y ((r + 1 : Nat) : Int) an bn pn s wn hn pn e) (fun c s => I r c s)
   (by
    intro c s hc ⟨hsl, i1⟩
    have w1 := w64 (x := X + (c : Int)) (by omega) (by omega)
    have w2 := w64 (x := Y + (r : Int)) (by omega) (by omega)
    by_cases on : 0 ≤ X + (c : Int) ∧ X + (c : Int) < an ∧ 0 ≤ Y + (r : Int) ∧ Y + (r : Int) < bn
    ·obtain ⟨x0, hx0⟩ := Int.eq_ofNat_of_zero_le on.1
     obtain ⟨y0, hy0⟩ := Int.eq_ofNat_of_zero_le on.2.2.1
     have hx0a : x0 < an := by omega
     have hy0b : y0 < bn := by omega
     have hyl : (nx pn e (r * wn + c)).length = pn := nx_length he (lin_lt hc hr)
     have hlin := lin_lt hx0a hy0b
     have hm : (y0 * an + x0 + 1) * pn ≤ (bn * an) * pn := Nat.mul_le_mul_right pn hlin
     rw [Nat.add_mul, Nat.one_mul] at hm
     refine ⟨laidOver s ((y0 * an + x0) * pn) (nx pn e (r * wn + c)), ⟨by rw [laidOver_length _ _ _ (by rw [hyl, hsl]; exact hm)]; exact hsl, ?_⟩, ?_⟩
     ·intro x y hx hy
      rw [nx_laid hsl hyl hlin (lin_lt hx hy)]
      by_cases q : x = x0 ∧ y = y0
      ·obtain ⟨rfl, rfl⟩ := q
       rw [if_pos rfl, if_pos (by omega), show ((y : Int) - Y).toNat = r by omega, show ((x : Int) - X).toNat = c by omega]
      ·rw [if_neg (fun z => q (lin_ne hx hx0a z)), i1 x y hx hy]
       by_cases z : X ≤ (x : Int) ∧ (x : Int) < X + wn ∧ Y ≤ (y : Int) ∧ (y : Int) < Y + hn ∧ ((y : Int) < Y + r ∨ ((y : Int) = Y + r ∧ (x : Int) < X + c))
       ·rw [if_pos z, if_pos (by omega)]
       ·rw [if_neg z, if_neg (by omega)]
     ·intro res hres
      refine Ev.step (f := fun k => (spec_onImage.f an bn pn s (X + (c : Int)) (Y + (r : Int))).bind fun u => if u = true then ((spec_pixelAt.f wn hn pn e (c : Int) (r : Int)).bind fun t => (spec_setPixel.f k an bn pn s (X + (c : Int)) (Y + (r : Int)) t).bind fun v => spec_paste.l1 k X Y (r : Int) ((c + 1 : Nat) : Int) an bn pn v wn hn pn e) else spec_paste.l1 k X Y (r : Int) ((c + 1 : Nat) : Int) an bn pn s wn hn pn e) (fun k => ?_) (ev_now (onImage_eq h1 h2 _ _ _ _) (ev_pos (decide_eq_true on) (ev_now (pixelAt_eq h4 h5 h3 hc hr e he) (ev_bind ?_ hres))))
      ·simp only [spec_paste.l1]
       rw [if_pos (by omega), w1, w2, w64n c (by omega)]
      ·rw [hx0, hy0]
       exact setPixel_ev h1.2 h2.2 h3 hx0a hy0b s _ hsl hyl
    ·refine ⟨s, ⟨hsl, fun x y hx hy => ?_⟩, ?_⟩
     ·rw [i1 x y hx hy]
      by_cases z : X ≤ (x : Int) ∧ (x : Int) < X + wn ∧ Y ≤ (y : Int) ∧ (y : Int) < Y + hn ∧ ((y : Int) < Y + r ∨ ((y : Int) = Y + r ∧ (x : Int) < X + c))
      ·rw [if_pos z, if_pos (by omega)]
      ·rw [if_neg z, if_neg (by omega)]
     ·intro res hres
      refine Ev.step (f := fun k => (spec_onImage.f an bn pn s (X + (c : Int)) (Y + (r : Int))).bind fun u => if u = true then ((spec_pixelAt.f wn hn pn e (c : Int) (r : Int)).bind fun t => (spec_setPixel.f k an bn pn s (X + (c : Int)) (Y + (r : Int)) t).bind fun v => spec_paste.l1 k X Y (r : Int) ((c + 1 : Nat) : Int) an bn pn v wn hn pn e) else spec_paste.l1 k X Y (r : Int) ((c + 1 : Nat) : Int) an bn pn s wn hn pn e) (fun k => ?_) (ev_now (onImage_eq h1 h2 _ _ _ _) (ev_neg (by simpa using on) hres))
      simp only [spec_paste.l1]
      rw [if_pos (by omega), w1, w2, w64n c (by omega)])
   (by
    intro s _ res hres
    refine Ev.step (fun k => ?_) hres
    simp only [spec_paste.l1]
    rw [if_neg (by omega), w64n r (by omega)])
   wn 0 s (by omega) hs
  refine ⟨s', ⟨i4.1, fun x y hx hy => ?_⟩, i5⟩
  rw [i4.2 x y hx hy]
  by_cases z : X ≤ (x : Int) ∧ (x : Int) < X + wn ∧ Y ≤ (y : Int) ∧ (y : Int) < Y + hn ∧ ((y : Int) < Y + r ∨ ((y : Int) = Y + r ∧ (x : Int) < X + wn))
  ·rw [if_pos z, if_pos (by omega)]
  ·rw [if_neg z, if_neg (by omega)]
 obtain ⟨s', i4, i5⟩ := ev_run hn (fun k r s => spec_paste.l0 k X Y (r : Int) an bn pn s wn hn pn e) (fun s _ => some s) (fun r s => I r 0 s)
  (by
   intro r s hr hs
   obtain ⟨s', i1, i2⟩ := inner r hr s hs
   refine ⟨s', i1, fun res hres => Ev.step (fun k => ?_) (i2 res hres)⟩
   simp only [spec_paste.l0]
   rw [if_pos (by omega)])
  (by
   intro s _ res hres
   refine Ev.step (fun k => ?_) hres
   simp only [spec_paste.l0]
   rw [if_neg (by omega)])
  hn 0 d (by omega) ⟨hd, fun x y hx hy => by rw [if_neg (by omega)]⟩
 have q : s' = imgD (pastePx an pn d X Y wn hn e) an bn := ext_img i4.1 (imgD_length hlen) (fun x y hx hy => by
  rw [i4.2 x y hx hy, nx_imgD hlen hx hy]
  unfold pastePx
  by_cases z : X ≤ (x : Int) ∧ (x : Int) < X + wn ∧ Y ≤ (y : Int) ∧ (y : Int) < Y + hn
  ·rw [if_pos z, if_pos (by omega)]
  ·rw [if_neg z, if_neg (by omega)])
 subst q
 exact i5 _ (Ev.now _)

/- PatchImage, as the program and the reference have it. -/

def inBx (r : S60) (x y : Nat) : Bool := decide (r.f0 ≤ (x : Int) ∧ (x : Int) < r.f0 + r.f2 ∧ r.f1 ≤ (y : Int) ∧ (y : Int) < r.f1 + r.f3)
def patchPx (an pn : Nat) (d e : List Int) (l : List S60) (x y : Nat) : List Int := if l.any (fun r => inBx r x y) = true then nx pn e (y * an + x) else nx pn d (y * an + x)
theorem patchPx_len {an bn pn : Nat} {d e : List Int} (hd : d.length = (bn * an) * pn) (he : e.length = (bn * an) * pn) (l : List S60) : ∀ x y, x < an → y < bn → (patchPx an pn d e l x y).length = pn := by
 intro x y hx hy
 unfold patchPx
 split
 ·exact nx_length he (lin_lt hx hy)
 ·exact nx_length hd (lin_lt hx hy)
theorem onB_box {a b : Int} {r : S60} (h : onB a b r = true) : ∃ X Y W H : Nat, r = ⟨X, Y, W, H⟩ ∧ 1 ≤ W ∧ 1 ≤ H ∧ (X : Int) + W ≤ a ∧ (Y : Int) + H ≤ b := by
 have h' := (onB_iff a b r).1 h
 obtain ⟨X, hX⟩ := Int.eq_ofNat_of_zero_le h'.1
 obtain ⟨Y, hY⟩ := Int.eq_ofNat_of_zero_le h'.2.2.1
 obtain ⟨W, hW⟩ := Int.eq_ofNat_of_zero_le (show 0 ≤ r.f2 by omega)
 obtain ⟨H, hH⟩ := Int.eq_ofNat_of_zero_le (show 0 ≤ r.f3 by omega)
 exact ⟨X, Y, W, H, by cases r; simp_all, by omega, by omega, by omega, by omega⟩
theorem put1_is {an bn pn : Nat} (h1 : an ≤ 16) (h2 : bn ≤ 16) (h3 : pn ≤ 4) {e : List Int} {x y : Nat} (hx : x < an) (hy : y < bn) (d : List Int) : put1 an pn e x y d = laidOver d ((y * an + x) * pn) (nx pn e (y * an + x)) := by
 unfold put1
 rw [(pixJ_nat h1 h2 h3 hx hy).1, Int.toNat_natCast, ← (pixJ_nat h1 h2 h3 hx hy).1]
 rw [show pixT e (pixJ an pn x y) pn = pxAt an pn e x y from rfl, pxAt_nat h1 h2 h3 hx hy]
theorem put1_len {an bn pn : Nat} (h1 : an ≤ 16) (h2 : bn ≤ 16) (h3 : pn ≤ 4) {e : List Int} (he : e.length = (bn * an) * pn) {x y : Nat} (hx : x < an) (hy : y < bn) {d : List Int} (hd : d.length = (bn * an) * pn) : (put1 an pn e x y d).length = (bn * an) * pn := by
 have hlin := lin_lt hx hy
 have hm : (y * an + x + 1) * pn ≤ (bn * an) * pn := Nat.mul_le_mul_right pn hlin
 rw [Nat.add_mul, Nat.one_mul] at hm
 rw [put1_is h1 h2 h3 hx hy, laidOver_length _ _ _ (by rw [nx_length he hlin, hd]; exact hm)]
 exact hd
theorem put1_nx {an bn pn : Nat} (h1 : an ≤ 16) (h2 : bn ≤ 16) (h3 : pn ≤ 4) {e : List Int} (he : e.length = (bn * an) * pn) {x y : Nat} (hx : x < an) (hy : y < bn) {d : List Int} (hd : d.length = (bn * an) * pn) {x' y' : Nat} (hx' : x' < an) (hy' : y' < bn) : nx pn (put1 an pn e x y d) (y' * an + x') = if x' = x ∧ y' = y then nx pn e (y' * an + x') else nx pn d (y' * an + x') := by
 rw [put1_is h1 h2 h3 hx hy, nx_laid hd (nx_length he (lin_lt hx hy)) (lin_lt hx hy) (lin_lt hx' hy')]
 by_cases c : x' = x ∧ y' = y
 ·rw [if_pos c, if_pos (by rw [c.1, c.2]), c.1, c.2]
 ·rw [if_neg c, if_neg (fun z => c (lin_ne hx' hx z))]
theorem putX_nx {an bn pn : Nat} (h1 : an ≤ 16) (h2 : bn ≤ 16) (h3 : pn ≤ 4) {e : List Int} (he : e.length = (bn * an) * pn) {X y : Nat} (hy : y < bn) {d : List Int} (hd : d.length = (bn * an) * pn) : ∀ n, X + n ≤ an → (putX an pn e X y n d).length = (bn * an) * pn ∧ ∀ x' y', x' < an → y' < bn → nx pn (putX an pn e X y n d) (y' * an + x') = if y' = y ∧ X ≤ x' ∧ x' < X + n then nx pn e (y' * an + x') else nx pn d (y' * an + x') := by
 intro n
 induction n with
 | zero =>
  intro _
  refine ⟨hd, fun x' y' hx' hy' => ?_⟩
  rw [if_neg (by omega)]
  rfl
 | succ n ih =>
  intro hn
  obtain ⟨i1, i2⟩ := ih (by omega)
  rw [putX_succ]
  refine ⟨put1_len h1 h2 h3 he (by omega) hy i1, fun x' y' hx' hy' => ?_⟩
  rw [put1_nx h1 h2 h3 he (by omega) hy i1 hx' hy', i2 x' y' hx' hy']
  by_cases c : x' = X + n ∧ y' = y
  ·rw [if_pos c, if_pos (by omega)]
  ·rw [if_neg c]
   by_cases c2 : y' = y ∧ X ≤ x' ∧ x' < X + n
   ·rw [if_pos c2, if_pos (by omega)]
   ·rw [if_neg c2, if_neg (by omega)]
theorem putB_nx {an bn pn : Nat} (h1 : an ≤ 16) (h2 : bn ≤ 16) (h3 : pn ≤ 4) {e : List Int} (he : e.length = (bn * an) * pn) {X Y W : Nat} (hW : X + W ≤ an) {d : List Int} (hd : d.length = (bn * an) * pn) : ∀ n, Y + n ≤ bn → (putB an pn e X Y W n d).length = (bn * an) * pn ∧ ∀ x' y', x' < an → y' < bn → nx pn (putB an pn e X Y W n d) (y' * an + x') = if X ≤ x' ∧ x' < X + W ∧ Y ≤ y' ∧ y' < Y + n then nx pn e (y' * an + x') else nx pn d (y' * an + x') := by
 intro n
 induction n with
 | zero =>
  intro _
  refine ⟨hd, fun x' y' hx' hy' => ?_⟩
  rw [if_neg (by omega)]
  rfl
 | succ n ih =>
  intro hn
  obtain ⟨i1, i2⟩ := ih (by omega)
  obtain ⟨i3, i4⟩ := putX_nx h1 h2 h3 he (X := X) (y := Y + n) (by omega) i1 W hW
  rw [putB_succ]
  refine ⟨i3, fun x' y' hx' hy' => ?_⟩
  rw [i4 x' y' hx' hy', i2 x' y' hx' hy']
  by_cases c : y' = Y + n ∧ X ≤ x' ∧ x' < X + W
  ·rw [if_pos c, if_pos (by omega)]
  ·rw [if_neg c]
   by_cases c2 : X ≤ x' ∧ x' < X + W ∧ Y ≤ y' ∧ y' < Y + n
   ·rw [if_pos c2, if_pos (by omega)]
   ·rw [if_neg c2, if_neg (by omega)]
theorem patchD_nx {an bn pn : Nat} (h1 : an ≤ 16) (h2 : bn ≤ 16) (h3 : pn ≤ 4) {e : List Int} (he : e.length = (bn * an) * pn) : ∀ (l : List S60), (∀ r ∈ l, onB an bn r = true) → ∀ d : List Int, d.length = (bn * an) * pn → (patchD an pn e l d).length = (bn * an) * pn ∧ ∀ x' y', x' < an → y' < bn → nx pn (patchD an pn e l d) (y' * an + x') = patchPx an pn d e l x' y' := by
 intro l
 induction l with
 | nil =>
  intro _ d hd
  exact ⟨hd, fun x' y' _ _ => rfl⟩
 | cons r l ih =>
  intro hl d hd
  obtain ⟨X, Y, W, H, rfl, hW, hH, hXW, hYH⟩ := onB_box (hl r (by simp))
  obtain ⟨i1, i2⟩ := putB_nx h1 h2 h3 he (X := X) (Y := Y) (W := W) (by omega) hd H (by omega)
  obtain ⟨i3, i4⟩ := ih (fun q hq => hl q (by simp [hq])) _ i1
  have e0 : patchD an pn e ((⟨X, Y, W, H⟩ : S60) :: l) d = patchD an pn e l (putB an pn e X Y W H d) := rfl
  rw [e0]
  refine ⟨i3, fun x' y' hx' hy' => ?_⟩
  rw [i4 x' y' hx' hy']
  unfold patchPx
  rw [List.any_cons, i2 x' y' hx' hy']
  by_cases c : l.any (fun r => inBx r x' y') = true
  ·rw [if_pos c, if_pos (by rw [c]; simp)]
  ·rw [if_neg c]
   have cf : l.any (fun r => inBx r x' y') = false := Bool.eq_false_iff.2 c
   rw [cf, Bool.or_false]
   by_cases c2 : X ≤ x' ∧ x' < X + W ∧ Y ≤ y' ∧ y' < Y + H
   ·rw [if_pos c2, if_pos (by unfold inBx; exact decide_eq_true (by show (X : Int) ≤ x' ∧ (x' : Int) < (X : Int) + (W : Int) ∧ (Y : Int) ≤ y' ∧ (y' : Int) < (Y : Int) + (H : Int); omega))]
   ·rw [if_neg c2, if_neg (by unfold inBx; rw [decide_eq_false (by show ¬ ((X : Int) ≤ x' ∧ (x' : Int) < (X : Int) + (W : Int) ∧ (Y : Int) ≤ y' ∧ (y' : Int) < (Y : Int) + (H : Int)); omega)]; simp)]
def patchV (a b p : Int) (d : List Int) (a' b' p' : Int) (e : List Int) (l : List S60) : Int × Int × Int × List Int × Bool :=
 if sameV a b p d a' b' p' e = true ∧ l.length ≤ 128 ∧ l.all (onB a b) = true then (a, b, p, imgD (patchPx a.toNat p.toNat d e l) a.toNat b.toNat, true) else (0, 0, 0, [], false)
theorem onB_is {a b : Int} (r : S60) : onB a b r = decide (0 ≤ r.f0 ∧ r.f0 < a ∧ 0 ≤ r.f1 ∧ r.f1 < b ∧ 1 ≤ r.f2 ∧ r.f2 ≤ a - r.f0 ∧ 1 ≤ r.f3 ∧ r.f3 ≤ b - r.f1) := by
 rw [Bool.eq_iff_iff, onB_iff, decide_eq_true_iff]
theorem isBoxOn_onB {a b p : Int} {d : List Int} (hs : 1 ≤ a ∧ a ≤ 16 ∧ 1 ≤ b ∧ b ≤ 16) (r : S60) : impl_isBoxOn.f a b p d r.f0 r.f1 r.f2 r.f3 = some (onB a b r) := by
 rw [onB_is]
 unfold impl_isBoxOn.f
 generalize r.f0 = x, r.f1 = y, r.f2 = w, r.f3 = h
 by_cases c1 : x ≥ 0
 ·rw [if_pos c1]
  by_cases c2 : x < a
  ·rw [if_pos c2]
   by_cases c3 : y ≥ 0
   ·rw [if_pos c3]
    by_cases c4 : y < b
    ·rw [if_pos c4, w64 (x := a - x) (by omega) (by omega), w64 (x := b - y) (by omega) (by omega)]
     by_cases c5 : w ≥ 1
     ·rw [if_pos c5]
      by_cases c6 : w ≤ a - x
      ·rw [if_pos c6]
       by_cases c7 : h ≥ 1
       ·rw [if_pos c7]; congr 1; rw [decide_eq_decide]; omega
       ·rw [if_neg c7, decide_eq_false (by omega)]
      ·rw [if_neg c6, decide_eq_false (by omega)]
     ·rw [if_neg c5, decide_eq_false (by omega)]
    ·rw [if_neg c4, decide_eq_false (by omega)]
   ·rw [if_neg c3, decide_eq_false (by omega)]
  ·rw [if_neg c2, decide_eq_false (by omega)]
 ·rw [if_neg c1, decide_eq_false (by omega)]
theorem validBox_onB {a b p : Int} {d : List Int} (hs : 1 ≤ a ∧ a ≤ 16 ∧ 1 ≤ b ∧ b ≤ 16) (r : S60) : spec_validBox.f a b p d r.f0 r.f1 r.f2 r.f3 = some (onB a b r) := by
 rw [onB_is]
 unfold spec_validBox.f
 generalize r.f0 = x, r.f1 = y, r.f2 = w, r.f3 = h
 rw [w64 (x := a - 1) (by omega) (by omega), w64 (x := b - 1) (by omega) (by omega)]
 simp only [spec_inRangeI_eq, Option.bind_some, Bool.and_eq_true, decide_eq_true_eq]
 by_cases c1 : 0 ≤ x ∧ x ≤ a - 1
 ·rw [if_pos c1]
  by_cases c2 : 0 ≤ y ∧ y ≤ b - 1
  ·rw [if_pos c2, w64 (x := a - x) (by omega) (by omega), w64 (x := b - y) (by omega) (by omega)]
   by_cases c3 : 1 ≤ w ∧ w ≤ a - x
   ·rw [if_pos c3]; congr 1; rw [Bool.eq_iff_iff]; simp; omega
   ·rw [if_neg c3, decide_eq_false (by omega)]
  ·rw [if_neg c2, decide_eq_false (by omega)]
 ·rw [if_neg c1, decide_eq_false (by omega)]
theorem rdBx (l : List S60) (i : Nat) (h : i < l.length) : rd_T60 l (i : Int) = l[i] := by simp [rd_T60, h]
theorem impl_PatchImage_ev (a b p : Int) (d : List Int) (a' b' p' : Int) (e : List Int) (l : List S60) (hl : l.length ≤ 1000000000000) : Ev (fun k => impl_PatchImage.f k a b p d a' b' p' e l) (patchV a b p d a' b' p' e l) := by
 unfold impl_PatchImage.f patchV
 have stop : ∀ q, ¬ (sameV a b p d a' b' p' e = true ∧ l.length ≤ 128 ∧ l.all (onB a b) = true) → q = true → Ev (fun k => impl_PatchImage.j0 k l q a b p d a' b' p' e) (if sameV a b p d a' b' p' e = true ∧ l.length ≤ 128 ∧ l.all (onB a b) = true then (a, b, p, imgD (patchPx a.toNat p.toNat d e l) a.toNat b.toNat, true) else (0, 0, 0, [], false)) := by
  intro q hn hq
  subst hq
  rw [if_neg hn]
  refine Ev.step (f := fun _ => some (0, 0, 0, [], false)) (fun k => ?_) (Ev.now _)
  simp only [impl_PatchImage.j0]
  rw [if_pos trivial]
 refine ev_now (impl_isImage_eq a b p d) ?_
 by_cases c1 : validI a b p d = true
 ·refine ev_pos c1 (ev_now (impl_isImage_eq a' b' p' e) ?_)
  by_cases c2 : validI a' b' p' e = true
  ·refine ev_pos c2 (ev_now (impl_alike_eq a b p d a' b' p' e) ?_)
   by_cases c3 : a = a' ∧ b = b' ∧ p = p'
   ·refine ev_pos (decide_eq_true c3) ?_
    have hsame : sameV a b p d a' b' p' e = true := (sameV_iff _ _ _ _ _ _ _ _).2 ⟨c1, c2, c3.1, c3.2.1, c3.2.2⟩
    by_cases c4 : (l.length : Int) > 128
    ·exact stop _ (by omega) (decide_eq_true c4)
    ·obtain ⟨rfl, rfl, rfl⟩ := c3
     rw [decide_eq_false c4]
     have hs := ((validI_iff a b p d).1 c1).1
     have hs' : 1 ≤ a ∧ a ≤ 16 ∧ 1 ≤ b ∧ b ≤ 16 := by omega
     have hval : l.all (onB a b) = true → impl_patched.f a b p d a b p e l = some (a, b, p, imgD (patchPx a.toNat p.toNat d e l) a.toNat b.toNat) := by
      intro hall
      unfold impl_patched.f
      rw [if_pos ⟨c1, c2, rfl, rfl, rfl, hall⟩]
      obtain ⟨an, bn, pn, rfl, rfl, rfl, q1, q2, q3, q4, q5, q6, q7⟩ := nat_of c1
      obtain ⟨_, _, _, f1, f2, f3, _, _, _, _, _, _, q8⟩ := nat_of c2
      have f1 := Int.ofNat.inj f1
      have f2 := Int.ofNat.inj f2
      have f3 := Int.ofNat.inj f3
      subst f1 f2 f3
      obtain ⟨i1, i2⟩ := patchD_nx q2 q4 q6 q8 l (List.all_eq_true.1 hall) d q7
      simp only [Int.toNat_natCast]
      have hlen := patchPx_len q7 q8 l
      rw [ext_img i1 (imgD_length hlen) (fun x y hx hy => by rw [i2 x y hx hy, nx_imgD hlen hx hy])]
     have key := ev_up l.length (fun k i (_ : Unit) => impl_PatchImage.l0 k l l (l.length : Int) (i : Int) a b p d a b p e) (fun i _ => (l.take i).all (onB a b) = true) (fun _ _ => if l.all (onB a b) = true then (a, b, p, imgD (patchPx a.toNat p.toNat d e l) a.toNat b.toNat, true) else (0, 0, 0, [], false))
      (by
       intro i _ hi hinv
       cases hb : onB a b l[i] with
       | true =>
        refine .inr ⟨(), fun k => ?_, ?_, rfl⟩
        ·simp only [impl_PatchImage.l0]
         rw [if_pos (by omega), if_pos (by omega), if_pos (by omega), rdBx l i hi, isBoxOn_onB hs', hb]
         simp only [Option.bind_some]
         rw [if_pos trivial, w64n i (by omega)]
        ·rw [List.take_succ_eq_append_getElem hi, List.all_append, hinv, List.all_cons, hb]; rfl
       | false =>
        left
        rw [if_neg (fun h => by
         have := List.all_eq_true.1 h l[i] (List.getElem_mem hi)
         rw [hb] at this; cases this)]
        refine Ev.step (f := fun _ => some (0, 0, 0, [], false)) (fun k => ?_) (Ev.now _)
        simp only [impl_PatchImage.l0]
        rw [if_pos (by omega), if_pos (by omega), if_pos (by omega), rdBx l i hi, isBoxOn_onB hs', hb]
        simp)
      (by
       intro _ hinv
       rw [List.take_length] at hinv
       rw [if_pos hinv]
       refine Ev.step (f := fun _ => (impl_patched.f a b p d a b p e l).bind fun t => some (t.1, t.2.1, t.2.2.1, t.2.2.2, true)) (fun k => ?_) (ev_now (hval hinv) (Ev.now _))
       simp only [impl_PatchImage.l0]
       rw [if_neg (by omega)])
      l.length 0 () (by omega) rfl
     refine Ev.step (f := fun k => impl_PatchImage.l0 k l l (l.length : Int) 0 a b p d a b p e) (fun k => ?_) ?_
     ·simp only [impl_PatchImage.j0]
      rw [if_neg (by simp)]
     ·refine ev_val key ?_
      by_cases hall : l.all (onB a b) = true
      ·rw [if_pos hall, if_pos ⟨hsame, by omega, hall⟩]
      ·rw [if_neg hall, if_neg (fun h => hall h.2.2)]
   ·rw [decide_eq_false c3]
    exact ev_neg (by simp) (stop _ (fun h => c3 (by have := (sameV_iff _ _ _ _ _ _ _ _).1 h.1; omega)) rfl)
  ·exact ev_neg c2 (stop _ (fun h => c2 ((sameV_iff _ _ _ _ _ _ _ _).1 h.1).2.1) rfl)
 ·exact ev_neg c1 (stop _ (fun h => c1 ((sameV_iff _ _ _ _ _ _ _ _).1 h.1).1) rfl)
theorem spec_PatchImage_ev (a b p : Int) (d : List Int) (a' b' p' : Int) (e : List Int) (l : List S60) (hl : l.length ≤ 1000000000000) (hd0 : d.length ≤ 2000000) (he0 : e.length ≤ 2000000) : Ev (fun k => spec_PatchImage.f k a b p d a' b' p' e l) (patchV a b p d a' b' p' e l) := by
 unfold spec_PatchImage.f
 have stop : ∀ q, ¬ (sameV a b p d a' b' p' e = true ∧ l.length ≤ 128 ∧ l.all (onB a b) = true) → q = true → Ev (fun k => spec_PatchImage.j0 k l q a b p d a' b' p' e) (patchV a b p d a' b' p' e l) := by
  intro q hn hq
  subst hq
  unfold patchV
  rw [if_neg hn]
  refine Ev.step (f := fun _ => some (0, 0, 0, [], false)) (fun k => ?_) (Ev.now _)
  simp only [spec_PatchImage.j0]
  rw [if_pos trivial]
 refine ev_bind (spec_sameShape_ev a b p d a' b' p' e (by omega) (by omega)) ?_
 by_cases c : sameV a b p d a' b' p' e = true
 ·refine ev_pos c ?_
  by_cases c4 : (l.length : Int) > 128
  ·exact stop _ (by omega) (decide_eq_true c4)
  ·rw [decide_eq_false c4]
   obtain ⟨c1, c2, rfl, rfl, rfl⟩ := (sameV_iff _ _ _ _ _ _ _ _).1 c
   have hs := ((validI_iff a b p d).1 c1).1
   have hs' : 1 ≤ a ∧ a ≤ 16 ∧ 1 ≤ b ∧ b ≤ 16 := by omega
   refine Ev.step (f := fun k => (spec_copyImage.f a b p d).bind fun t => spec_PatchImage.l0 k l 0 a b p d a b p e t.1 t.2.1 t.2.2.1 t.2.2.2) (fun k => ?_) ?_
   ·simp only [spec_PatchImage.j0]
    rw [if_neg (by simp)]
   ·have hd1 : d.length ≤ 1000000 := by
     obtain ⟨an, bn, pn, _, _, _, _, q2, _, q4, _, q6, q7⟩ := nat_of c1
     have sm := small q2 q4 q6
     omega
    refine ev_now (show spec_copyImage.f a b p d = some (a, b, p, d) from by
     unfold spec_copyImage.f
     rw [copyInts_px d hd1]
     rfl) ?_
    obtain ⟨an, bn, pn, rfl, rfl, rfl, q1, q2, q3, q4, q5, q6, q7⟩ := nat_of c1
    obtain ⟨_, _, _, f1, f2, f3, _, _, _, _, _, _, q8⟩ := nat_of c2
    have f1 := Int.ofNat.inj f1
    have f2 := Int.ofNat.inj f2
    have f3 := Int.ofNat.inj f3
    subst f1 f2 f3
    have key := ev_up2 l.length (fun k i (s : List Int) => spec_PatchImage.l0 k l (i : Int) an bn pn d an bn pn e an bn pn s) (fun i s => (l.take i).all (onB an bn) = true ∧ s.length = (bn * an) * pn ∧ ∀ x y, x < an → y < bn → nx pn s (y * an + x) = patchPx an pn d e (l.take i) x y) (fun _ _ => patchV an bn pn d an bn pn e l)
     (by
      intro i s hi ⟨hinv, hsl, hpx⟩
      cases hb : onB an bn l[i] with
      | false =>
       left
       unfold patchV
       rw [if_neg (fun h => by
        have := List.all_eq_true.1 h.2.2 l[i] (List.getElem_mem hi)
        rw [hb] at this; cases this)]
       refine Ev.step (f := fun _ => some (0, 0, 0, [], false)) (fun k => ?_) (Ev.now _)
       simp only [spec_PatchImage.l0]
       rw [if_pos (by omega), if_pos (by omega), rdBx l i hi, validBox_onB hs', hb]
       simp
      | true =>
       right
       obtain ⟨X, Y, W, H, hr, hW, hH, hXW, hYH⟩ := onB_box hb
       have hcl := cropD_len (X := X) (Y := Y) (wn := W) (hn := H) q8 (by omega) (by omega)
       have hcD : (cropD an pn e X Y W H).length = (H * W) * pn := imgD_length hcl
       have hpl := pastePx_len (X := (X : Int)) (Y := (Y : Int)) hsl hcD
       refine ⟨imgD (pastePx an pn s X Y W H (cropD an pn e X Y W H)) an bn, fun res hres => ?_, ⟨by rw [List.take_succ_eq_append_getElem hi, List.all_append, hinv, List.all_cons, hb]; rfl, imgD_length hpl, fun x y hx hy => ?_⟩, rfl⟩
       ·refine Ev.step (f := fun k => (spec_validBox.f an bn pn d l[i].f0 l[i].f1 l[i].f2 l[i].f3).bind fun u => if u = true then ((spec_crop.f k an bn pn e l[i].f0 l[i].f1 l[i].f2 l[i].f3).bind fun t => (spec_paste.f k an bn pn s l[i].f0 l[i].f1 t.1 t.2.1 t.2.2.1 t.2.2.2).bind fun v => spec_PatchImage.l0 k l ((i + 1 : Nat) : Int) an bn pn d an bn pn e an bn pn v) else some (0, 0, 0, [], false)) (fun k => ?_) (ev_now (validBox_onB hs' l[i]) (ev_pos hb ?_))
        ·simp only [spec_PatchImage.l0]
         rw [if_pos (by omega), if_pos (by omega), rdBx l i hi, w64n i (by omega)]
        ·rw [hr]
         exact ev_bind (crop_ev q2 q4 q6 (by omega) (by omega) e q8) (ev_bind (paste_ev (X := (X : Int)) (Y := (Y : Int)) ⟨q1, q2⟩ ⟨q3, q4⟩ q6 (by omega) (by omega) (by omega) (by omega) s _ hsl hcD) hres)
       ·rw [nx_imgD hpl hx hy]
        unfold pastePx patchPx
        rw [List.take_succ_eq_append_getElem hi, List.any_append, List.any_cons, List.any_nil, Bool.or_false, hr]
        have hbx : inBx (⟨X, Y, W, H⟩ : S60) x y = decide ((X : Int) ≤ x ∧ (x : Int) < (X : Int) + W ∧ (Y : Int) ≤ y ∧ (y : Int) < (Y : Int) + H) := rfl
        rw [hbx]
        by_cases z : (X : Int) ≤ x ∧ (x : Int) < (X : Int) + W ∧ (Y : Int) ≤ y ∧ (y : Int) < (Y : Int) + H
        ·rw [if_pos z, decide_eq_true z, Bool.or_true, if_pos rfl]
         unfold cropD
         rw [nx_imgD hcl (by omega) (by omega)]
         congr 2
         ·congr 1
          omega
         ·omega
        ·rw [if_neg z, decide_eq_false z, Bool.or_false, hpx x y hx hy]
         rfl)
     (by
      intro s ⟨hinv, hsl, hpx⟩
      rw [List.take_length] at hinv hpx
      have hlen := patchPx_len q7 q8 l
      have hse : s = imgD (patchPx an pn d e l) an bn := ext_img hsl (imgD_length hlen) (fun x y hx hy => by rw [hpx x y hx hy, nx_imgD hlen hx hy])
      unfold patchV
      rw [if_pos ⟨c, by omega, hinv⟩]
      simp only [Int.toNat_natCast]
      rw [← hse]
      refine Ev.step (f := fun _ => some ((an : Int), (bn : Int), (pn : Int), s, true)) (fun k => ?_) (Ev.now _)
      simp only [spec_PatchImage.l0]
      rw [if_neg (by omega)])
     l.length 0 d (by omega) ⟨rfl, q7, fun x y _ _ => rfl⟩
    exact key
 ·exact ev_neg c (stop _ (fun h => c h.1) rfl)

/- The pixels at which two images differ, as the program and the reference have them. -/

theorem copyInts_eq (l : List Int) (hl : l.length ≤ 1000000) : spec_copyInts.f l = some l := by
 unfold spec_copyInts.f
 simp only [Option.bind_some]
 rw [if_pos (by simp; omega)]
 simp
theorem spec_pixelAt_eq {a b p : Int} {d : List Int} (hv : validI a b p d = true) {x y : Nat} (hx : (x : Int) < a) (hy : (y : Int) < b) : spec_pixelAt.f a b p d (x : Int) (y : Int) = some (pixT d (pixJ a p x y) p) := by
 have h := pixJ_is hv hx hy
 have hh := (validI_iff a b p d).1 hv
 have hp := shape_prod hh.1
 have e : wrap64 ((wrap64 ((wrap64 ((y : Int) * a)) + (x : Int))) * p) = pixJ a p x y := rfl
 unfold spec_pixelAt.f
 rw [e]
 generalize pixJ a p x y = j at *
 have hw : wrap64 (j + p) = j + p := w64 (by omega) (by omega)
 rw [if_pos (by omega), if_pos (by omega), if_pos (by omega)]
 have hl := pixT_len d j p
 show (spec_copyInts.f (pixT d j p)).bind _ = _
 rw [copyInts_eq _ (by omega)]
 rfl
theorem spec_equalInts_ev (l m : List Int) (hl : l.length ≤ 1000000) : Ev (fun k => spec_equalInts.f k l m) (decide (l = m)) := by
 unfold spec_equalInts.f
 by_cases hn : l.length = m.length
 ·have key := ev_up l.length (fun k i (_ : Unit) => spec_equalInts.l0 k l m (i : Int)) (fun _ _ => True) (fun i _ => decide (l.drop i = m.drop i))
   (by
    intro i s hi _
    have e1 := List.drop_eq_getElem_cons hi
    have e2 := List.drop_eq_getElem_cons (show i < m.length by omega)
    by_cases c : l[i] = m[i]'(by omega)
    ·refine .inr ⟨(), fun k => ?_, trivial, ?_⟩
     ·simp only [spec_equalInts.l0]
      rw [if_pos (by omega), if_pos (by omega), if_pos (by omega), rd_nat l i hi, rd_nat m i (by omega), if_pos c, w64n i (by omega)]
     ·rw [e1, e2, decide_eq_decide, List.cons.injEq]
      exact ⟨fun h => ⟨c, h⟩, fun h => h.2⟩
    ·left
     rw [e1, e2, decide_eq_false (by rw [List.cons.injEq]; exact fun h => c h.1)]
     refine Ev.step (f := fun _ => some false) (fun k => ?_) (Ev.now _)
     simp only [spec_equalInts.l0]
     rw [if_pos (by omega), if_pos (by omega), if_pos (by omega), rd_nat l i hi, rd_nat m i (by omega), if_neg c])
   (by
    intro s _
    refine Ev.step (f := fun _ => some true) (fun k => ?_) (ev_const (by rw [List.drop_length, hn, List.drop_length]; rfl))
    simp only [spec_equalInts.l0]
    rw [if_neg (by omega)])
   l.length 0 () (by omega) trivial
  exact ev_pos (by omega) (by simpa using key)
 ·refine ev_neg (by omega) ?_
  rw [decide_eq_false (fun h => hn (by rw [h]))]
  exact Ev.now _
def upG (f : Nat → Nat → Bool) (y x q : Nat) : Bool := decide (q / 16 < y ∨ (q / 16 = y ∧ q % 16 < x)) && f (q % 16) (q / 16)
theorem upG_set (f : Nat → Nat → Bool) (y x q : Nat) (hx : x < 16) : (if q = y * 16 + x then f x y else upG f y x q) = upG f y (x + 1) q := by
 unfold upG
 by_cases e : q = y * 16 + x
 ·have e1 : q % 16 = x := by omega
  have e2 : q / 16 = y := by omega
  rw [if_pos e, e1, e2, decide_eq_true (by omega), Bool.true_and]
 ·rw [if_neg e]
  congr 1
  rw [decide_eq_decide]
  omega
theorem upG_row (f : Nat → Nat → Bool) (W y q : Nat) (hf : ∀ x, W ≤ x → f x y = false) (hW : W ≤ 16) : upG f y W q = upG f (y + 1) 0 q := by
 unfold upG
 by_cases e : q / 16 = y
 ·by_cases c : q % 16 < W
  ·rw [decide_eq_true (by omega), decide_eq_true (by omega)]
  ·rw [e, hf _ (by omega), Bool.and_false, Bool.and_false]
 ·congr 1
  rw [decide_eq_decide]
  omega
theorem chg_col (a b p : Int) (d1 d2 : List Int) (x y : Nat) (h : a ≤ (x : Int)) : chg a b p d1 d2 x y = false := by
 unfold chg; rw [decide_eq_false (by omega), Bool.false_and]
theorem chg_row (a b p : Int) (d1 d2 : List Int) (x y : Nat) (h : b ≤ (y : Int)) : chg a b p d1 d2 x y = false := by
 unfold chg; rw [decide_eq_false (show ¬ (y : Int) < b by omega), Bool.false_and, Bool.and_false]
theorem spec_changed_ev (W H : Nat) (p : Int) (d1 d2 : List Int) (hv1 : validI W H p d1 = true) (hv2 : validI W H p d2 = true) : Ev (fun k => spec_changed.f k W H p d1 W H p d2) (runsL (gso (chg W H p d1 d2) 256)) := by
 have hh := (validI_iff _ _ _ _).1 hv1
 have hpr := shape_prod hh.1
 have hW : W ≤ 16 := by omega
 have hH : H ≤ 16 := by omega
 obtain ⟨f, hf⟩ : ∃ f, f = chg W H p d1 d2 := ⟨_, rfl⟩
 have hlast : ∀ q, q < 256 → upG f H 0 q = gso f 256 q := by
  intro q hq
  rw [gso_at _ _ hq]
  unfold upG
  by_cases c : q / 16 < H
  ·rw [decide_eq_true (by omega), Bool.true_and]
  ·rw [hf, chg_row _ _ _ _ _ _ _ (by omega), Bool.and_false]
 have key := ev_up2 H (fun k y (s : List Bool) => spec_changed.l0 k s (y : Int) W H p d1 W H p d2) (fun y s => s = tab (upG f y 0)) (fun _ _ => runsL (gso f 256))
  (by
   intro y s hy hs
   right
   refine ⟨tab (upG f (y + 1) 0), fun R hR => ?_, rfl, rfl⟩
   have inner := ev_up2 W (fun k x (s : List Bool) => spec_changed.l1 k s (y : Int) (x : Int) W H p d1 W H p d2) (fun x s => s = tab (upG f y x)) (fun _ _ => R)
    (by
     intro x s hx hs
     right
     refine ⟨tab (upG f y (x + 1)), fun R' hR' => ?_, rfl, rfl⟩
     have e1 := spec_pixelAt_eq hv1 (x := x) (y := y) (by omega) (by omega)
     have e2 := spec_pixelAt_eq hv2 (x := x) (y := y) (by omega) (by omega)
     have hl := pixT_len d1 (pixJ W p x y) p
     have e3 := spec_equalInts_ev (pixT d1 (pixJ W p x y) p) (pixT d2 (pixJ W p x y) p) (by omega)
     have e4 : wrap64 ((wrap64 ((y : Int) * 16)) + (x : Int)) = ((y * 16 + x : Nat) : Int) := by
      rw [w64 (x := (y : Int) * 16) (by omega) (by omega), w64 (by omega) (by omega)]; omega
     have e5 : (!(decide (pixT d1 (pixJ W p x y) p = pixT d2 (pixJ W p x y) p))) = f x y := by rw [hf, chg_in _ _ _ _ _ _ _ (by omega) (by omega)]
     have hset : s.set (y * 16 + x) (f x y) = tab (upG f y (x + 1)) := by
      rw [hs, tab_set]
      exact tab_congr (fun q _ => upG_set f y x q (by omega))
     have hlen : s.length = 256 := by rw [hs, tab_length]
     refine Ev.step (f := fun k => (spec_pixelAt.f W H p d1 (x : Int) (y : Int)).bind fun u => (spec_pixelAt.f W H p d2 (x : Int) (y : Int)).bind fun v => (spec_equalInts.f k u v).bind fun z => if 0 ≤ (wrap64 ((wrap64 ((y : Int) * 16)) + (x : Int))) then (if (wrap64 ((wrap64 ((y : Int) * 16)) + (x : Int))) < (s.length : Int) then spec_changed.l1 k (s.set ((wrap64 ((wrap64 ((y : Int) * 16)) + (x : Int))) : Int).toNat (!z)) (y : Int) (wrap64 ((x : Int) + 1)) W H p d1 W H p d2 else none) else none) (fun k => ?_) ?_
     ·simp only [spec_changed.l1]
      rw [if_pos (by omega)]
     ·refine ev_now e1 (ev_now e2 (ev_bind e3 ?_))
      rw [e4, e5]
      refine ev_pos (by omega) (ev_pos (by omega) ?_)
      rw [Int.toNat_natCast, hset, w64n x (by omega)]
      exact hR')
    (by
     intro s hs
     have hrow : s = tab (upG f (y + 1) 0) := by
      rw [hs]
      exact tab_congr (fun q _ => upG_row f W y q (fun x hx => by rw [hf]; exact chg_col _ _ _ _ _ _ _ (by omega)) hW)
     refine Ev.step (fun k => ?_) (show Ev (fun k => spec_changed.l0 k s ((y + 1 : Nat) : Int) W H p d1 W H p d2) R from by rw [hrow]; exact hR)
     simp only [spec_changed.l1]
     rw [if_neg (by omega), w64n y (by omega)])
    W 0 s (by omega) hs
   have inner' : Ev (fun k => spec_changed.l1 k s (y : Int) 0 W H p d1 W H p d2) R := inner
   refine Ev.step (fun k => ?_) inner'
   simp only [spec_changed.l0]
   rw [if_pos (by omega)])
  (by
   intro s hs
   have hend : s = tab (gso f 256) := by rw [hs]; exact tab_congr hlast
   refine Ev.step (f := fun k => (spec_runsOf.f k s).bind fun t => some t) (fun k => ?_) (ev_bind (by rw [hend]; exact spec_runsOf_ev _) (Ev.now _))
   simp only [spec_changed.l0]
   rw [if_neg (by omega)])
  H 0 (List.replicate 256 false) (by omega) (by
   rw [tab_false]
   refine tab_congr (fun q _ => ?_)
   unfold upG
   rw [decide_eq_false (by omega), Bool.false_and])
 unfold spec_changed.f
 rw [← hf]
 have key' : Ev (fun k => spec_changed.l0 k (List.replicate 256 false) 0 W H p d1 W H p d2) (runsL (gso f 256)) := key
 exact ev_pos (by omega) key'

/- ChangedBoxes, as the program and the reference have it. -/

noncomputable def chBoxes (a b p : Int) (d1 : List Int) (a' b' p' : Int) (d2 : List Int) : List Box := if sameV a b p d1 a' b' p' d2 = true then (partsS 256 0 (gso (chg a b p d1 d2) 256)).map boxB else []
theorem chBoxes_len (a b p : Int) (d1 : List Int) (a' b' p' : Int) (d2 : List Int) : (chBoxes a b p d1 a' b' p' d2).length ≤ 256 := by
 unfold chBoxes
 split
 ·rw [List.length_map]; exact partsS_len 256 0 _
 ·simp
theorem impl_ChangedBoxes_eq (a b p : Int) (d1 : List Int) (a' b' p' : Int) (d2 : List Int) : impl_ChangedBoxes.f a b p d1 a' b' p' d2 = some (chBoxes a b p d1 a' b' p' d2) := rfl
theorem boundsLoop (L : List (List Run)) (h : ∀ r ∈ L, r ≠ [] ∧ r.length ≤ 272 ∧ ∀ x ∈ r, runOK x = true) (hL : L.length ≤ 256) : Ev (fun k => spec_ChangedBoxes.l0 k [] L 0) (L.map boxB) := by
 have key := ev_up2 L.length (fun k i (s : List Box) => spec_ChangedBoxes.l0 k s L (i : Int)) (fun i s => s = (L.take i).map boxB) (fun _ _ => L.map boxB)
  (by
   intro i s hi hs
   right
   refine ⟨(L.take (i + 1)).map boxB, fun R hR => ?_, rfl, rfl⟩
   have hx := h L[i] (List.getElem_mem hi)
   have hrd : rd_L13 L (i : Int) = L[i] := by simp [rd_L13, hi]
   have hb : Ev (fun k => spec_boundsOf.f k L[i]) (boundsR L[i]) := ev_of L[i].length (fun k hk => spec_boundsOf_eq L[i] hx.1 (by omega) hx.2.2 k hk)
   have hlen : s.length ≤ 256 := by rw [hs, List.length_map, List.length_take]; omega
   have htk : (L.take (i + 1)).map boxB = s ++ [boxB L[i]] := by rw [List.take_succ_eq_append_getElem hi, List.map_append, hs]; rfl
   refine Ev.step (f := fun k => (spec_boundsOf.f k L[i]).bind fun bt => if s.length < 4398046511104 then spec_ChangedBoxes.l0 k (s ++ [⟨bt.1, bt.2.1, bt.2.2.1, bt.2.2.2⟩]) L (wrap64 ((i : Int) + 1)) else none) (fun k => ?_) (ev_bind hb (ev_pos (by omega) ?_))
   ·simp only [spec_ChangedBoxes.l0]
    rw [if_pos (by omega), if_pos (by omega), hrd]
   ·rw [w64n i (by omega)]
    rw [htk] at hR
    exact hR)
  (by
   intro s hs
   refine Ev.step (f := fun _ => some s) (fun k => ?_) (ev_const (by rw [hs, List.take_length]))
   simp only [spec_ChangedBoxes.l0]
   rw [if_neg (by omega)])
  L.length 0 [] (by omega) (by simp)
 exact key
theorem spec_ChangedBoxes_ev (a b p : Int) (d1 : List Int) (a' b' p' : Int) (d2 : List Int) (hl : d1.length ≤ 1000000000000) (hl' : d2.length ≤ 1000000000000) : Ev (fun k => spec_ChangedBoxes.f k a b p d1 a' b' p' d2) (chBoxes a b p d1 a' b' p' d2) := by
 unfold spec_ChangedBoxes.f chBoxes
 refine ev_bind (spec_sameShape_ev a b p d1 a' b' p' d2 hl hl') ?_
 by_cases c : sameV a b p d1 a' b' p' d2 = true
 ·rw [if_pos c]
  obtain ⟨h1, h2, rfl, rfl, rfl⟩ := (sameV_iff _ _ _ _ _ _ _ _).1 c
  have hh := (validI_iff _ _ _ _).1 h1
  obtain ⟨W, rfl⟩ := Int.eq_ofNat_of_zero_le (show 0 ≤ a by omega)
  obtain ⟨H, rfl⟩ := Int.eq_ofNat_of_zero_le (show 0 ≤ b by omega)
  have hlen := runsL_len (gso (chg W H p d1 d2) 256)
  have hp := spec_parts_ev (runsL (gso (chg W H p d1 d2) 256)) (by omega) (valid_ranges (runs_valid _))
  rw [partsS_congr 256 0 _ _ (by omega) (fun q hq => grid_runs (gso (chg W H p d1 d2) 256) q hq)] at hp
  refine ev_pos c (ev_bind (spec_changed_ev W H p d1 d2 h1 h2) (ev_bind hp (boundsLoop _ (fun r hr => ?_) (partsS_len 256 0 _))))
  obtain ⟨f, hf⟩ := partsS_each 256 0 _ r hr
  exact ⟨partsS_ne 256 0 _ (by omega) r hr, by rw [hf]; exact runsL_len f, by rw [hf]; exact valid_ok (runs_valid f)⟩
 ·rw [if_neg c]
  exact ev_neg c (Ev.now _)

/- Patches carry all changes: the law FnPatchImage over lists of numbers alone. -/

theorem drawPatch (code : List Int) (hw : ∀ x ∈ code, (Lit.int .u8 x).wf = true) : ∃ (w h p : Int) (d : List Int) (w' h' p' : Int) (d' : List Int) (l : List Box), d.length ≤ 1024 ∧ d'.length ≤ 1024 ∧ l.length ≤ 300 ∧ (∃ m, l = chBoxes w h p d w' h' p' d' ++ m) ∧ Ev (fun k => spec_DrawPatchImage.f k code) (w, h, p, d, w', h', p', d', l) := by
 obtain ⟨b, hb, hB⟩ := newReader_at code (code_bytes code hw)
 obtain ⟨w, h, p, d, w', h', p', d', q, hd, hd', q1, q2, he⟩ := twoImages_ev b 0 hB (by omega) (by omega)
 have hS := spec_ChangedBoxes_ev w h p d w' h' p' d' (by omega) (by omega)
 have hlen := chBoxes_len w h p d w' h' p' d'
 obtain ⟨x, hx, x0, x1⟩ := pick_in b q 4 (by omega) hB (by omega) (by omega)
 by_cases c : x = 0
 ·obtain ⟨X, Y, W, H, hbx⟩ := anyBox_any b (q + 1) hB (by omega) (by omega)
  refine ⟨w, h, p, d, w', h', p', d', chBoxes w h p d w' h' p' d' ++ [⟨X, Y, W, H⟩], hd, hd', by simp; omega, ⟨_, rfl⟩, ?_⟩
  unfold spec_DrawPatchImage.f
  exact ev_now hb (ev_bind he (ev_bind hS (ev_bind hx (ev_pos c (ev_bind hbx (ev_pos (by omega) (Ev.now _)))))))
 ·refine ⟨w, h, p, d, w', h', p', d', chBoxes w h p d w' h' p' d', hd, hd', by omega, ⟨[], by simp⟩, ?_⟩
  unfold spec_DrawPatchImage.f
  exact ev_now hb (ev_bind he (ev_bind hS (ev_bind hx (ev_neg c (Ev.now _)))))
theorem cover_all {an bn pn : Nat} {d e : List Int} (hs : sameV an bn pn d an bn pn e = true) (h1 : an ≤ 16) (h2 : bn ≤ 16) (h3 : pn ≤ 4) (x y : Nat) (hx : x < an) (hy : y < bn) : patchPx an pn d e (chBoxes an bn pn d an bn pn e) x y = nx pn e (y * an + x) := by
 unfold patchPx
 by_cases c : (chBoxes an bn pn d an bn pn e).any (fun r => inBx r x y) = true
 ·rw [if_pos c]
 ·rw [if_neg c]
  cases hc : chg an bn pn d e x y with
  | false =>
   rw [chg_in an bn pn d e x y (by omega) (by omega)] at hc
   have hc' : pxAt an pn d x y = pxAt an pn e x y := by
    have h := hc
    rw [Bool.not_eq_false'] at h
    exact of_decide_eq_true h
   rw [pxAt_nat h1 h2 h3 hx hy, pxAt_nat h1 h2 h3 hx hy] at hc'
   exact hc'
  | true =>
   refine absurd ?_ c
   obtain ⟨g, hg⟩ : ∃ g, g = gso (chg an bn pn d e) 256 := ⟨_, rfl⟩
   have hq : y * 16 + x < 256 := by omega
   have hgq : g (y * 16 + x) = true := by
    rw [hg, gso_at _ _ hq, show (y * 16 + x) % 16 = x by omega, show (y * 16 + x) / 16 = y by omega]
    exact hc
   obtain ⟨r, hr, hrq⟩ := part_cover 256 0 g (by omega) (fun z hz => by omega) _ hq hgq
   obtain ⟨f, hf⟩ := partsS_each 256 0 g r hr
   have hv : validR r = true := by rw [hf]; exact runs_valid f
   have hb := (bound_box r hv (partsS_ne 256 0 g (by omega) r hr)).2 _ hrq
   rw [show (y * 16 + x) % 16 = x by omega, show (y * 16 + x) / 16 = y by omega] at hb
   unfold chBoxes
   rw [if_pos hs, ← hg]
   refine List.any_eq_true.2 ⟨boxB r, List.mem_map.2 ⟨r, hr, rfl⟩, ?_⟩
   unfold inBox at hb
   simp only [Bool.and_eq_true, decide_eq_true_eq] at hb
   unfold inBx boxB
   exact decide_eq_true ⟨hb.1.1.1, hb.1.1.2, hb.1.2, hb.2⟩
theorem patch_again {a b p : Int} {d e : List Int} {a' b' p' : Int} {l m : List Box} (h : (patchV a b p d a' b' p' e (chBoxes a b p d a' b' p' e ++ m)).2.2.2.2 = true) :
  a' = a ∧ b' = b ∧ p' = p ∧ patchV a b p d a' b' p' e (chBoxes a b p d a' b' p' e) = (a, b, p, e, true) ∧ patchV a b p d a' b' p' e [] = (a, b, p, d, true) := by
 unfold patchV at h
 split at h
 ·rename_i hc
  obtain ⟨hs, hl, hall⟩ := hc
  obtain ⟨c1, c2, rfl, rfl, rfl⟩ := (sameV_iff _ _ _ _ _ _ _ _).1 hs
  refine ⟨rfl, rfl, rfl, ?_, ?_⟩
  ·unfold patchV
   rw [List.all_append, Bool.and_eq_true] at hall
   rw [List.length_append] at hl
   rw [if_pos ⟨hs, by omega, hall.1⟩]
   obtain ⟨an, bn, pn, rfl, rfl, rfl, q1, q2, q3, q4, q5, q6, q7⟩ := nat_of c1
   obtain ⟨_, _, _, f1, f2, f3, _, _, _, _, _, _, q8⟩ := nat_of c2
   have f1 := Int.ofNat.inj f1
   have f2 := Int.ofNat.inj f2
   have f3 := Int.ofNat.inj f3
   subst f1 f2 f3
   simp only [Int.toNat_natCast]
   rw [imgD_congr (fun x y hx hy => cover_all hs q2 q4 q6 x y hx hy), imgD_nx q8]
  ·unfold patchV
   rw [if_pos ⟨hs, by simp, by simp⟩]
   obtain ⟨an, bn, pn, rfl, rfl, rfl, q1, q2, q3, q4, q5, q6, q7⟩ := nat_of c1
   simp only [Int.toNat_natCast]
   rw [show patchPx an pn d e [] = fun x y => nx pn d (y * an + x) from rfl, imgD_nx q7]
 ·cases h
theorem FnPatchImage : laws_FnPatchImage.Pure := by
 intro code _ _ hw
 apply Ev.rounds
 unfold laws_FnPatchImage.f
 by_cases c : (code.length : Int) > 1048576
 ·exact ev_pos c (Ev.now true)
 refine ev_neg c ?_
 obtain ⟨w, h, p, d, w', h', p', d', l, hdl, hdl', hll, ⟨m, hm⟩, hd⟩ := drawPatch code hw
 have hI := impl_PatchImage_ev w h p d w' h' p' d' l (by omega)
 have hS := spec_PatchImage_ev w h p d w' h' p' d' l (by omega) (by omega) (by omega)
 have hkey : ∀ V : Int × Int × Int × List Int × Bool, V = patchV w h p d w' h' p' d' l → V.2.2.2.1.length ≤ 1000000 → Ev (fun k => laws_equalImage.f k V.1 V.2.1 V.2.2.1 V.2.2.2.1 V.1 V.2.1 V.2.2.1 V.2.2.2.1) true := fun V _ hV => ev_val (equalImage_ev _ _ _ _ _ _ _ _ hV) (decide_eq_true ⟨rfl, rfl, rfl, rfl⟩)
 have hVl : (patchV w h p d w' h' p' d' l).2.2.2.1.length ≤ 1000000 := by
  unfold patchV
  split
  ·rename_i hc
   obtain ⟨c1, c2, rfl, rfl, rfl⟩ := (sameV_iff _ _ _ _ _ _ _ _).1 hc.1
   obtain ⟨an, bn, pn, rfl, rfl, rfl, q1, q2, q3, q4, q5, q6, q7⟩ := nat_of c1
   obtain ⟨_, _, _, f1, f2, f3, _, _, _, _, _, _, q8⟩ := nat_of c2
   have f1 := Int.ofNat.inj f1
   have f2 := Int.ofNat.inj f2
   have f3 := Int.ofNat.inj f3
   subst f1 f2 f3
   simp only [Int.toNat_natCast]
   rw [imgD_length (patchPx_len q7 q8 l)]
   have := small q2 q4 q6
   omega
  ·simp
 have heq := hkey _ rfl hVl
 refine ev_bind hd (ev_bind hI (ev_bind hS (ev_bind heq (ev_pos rfl ?_))))
 refine ev_neg (by simp) ?_
 cases hok : (patchV w h p d w' h' p' d' l).2.2.2.2 with
 | false =>
  refine Ev.step (f := fun k => (laws_equalImage.f k _ _ _ _ _ _ _ _).bind fun t => if t = true then some (false == false) else some false) (fun k => ?_) (ev_bind heq (ev_pos rfl (ev_const rfl)))
  simp only [laws_FnPatchImage.j0, Bool.not_false]
  rw [if_pos trivial]
 | true =>
  rw [hm] at hok
  obtain ⟨rfl, rfl, rfl, e1, e2⟩ := patch_again (l := l) hok
  have hC := impl_ChangedBoxes_eq w' h' p' d w' h' p' d'
  have hlen := chBoxes_len w' h' p' d w' h' p' d'
  have hI1 := impl_PatchImage_ev w' h' p' d w' h' p' d' (chBoxes w' h' p' d w' h' p' d') (by omega)
  have hI2 := impl_PatchImage_ev w' h' p' d w' h' p' d' [] (by simp)
  rw [e1] at hI1
  rw [e2] at hI2
  refine Ev.step (f := fun k => (impl_ChangedBoxes.f w' h' p' d w' h' p' d').bind fun t => (impl_PatchImage.f k w' h' p' d w' h' p' d' t).bind fun u => (impl_PatchImage.f k w' h' p' d w' h' p' d' []).bind fun v => if u.2.2.2.2 = true then ((laws_equalImage.f k u.1 u.2.1 u.2.2.1 u.2.2.2.1 w' h' p' d').bind fun z => if z = true then (if v.2.2.2.2 = true then ((laws_equalImage.f k v.1 v.2.1 v.2.2.1 v.2.2.2.1 w' h' p' d).bind fun y => some y) else some false) else some false) else some false) (fun k => ?_)
   (ev_now hC (ev_bind hI1 (ev_bind hI2 (ev_pos rfl (ev_bind (ev_val (equalImage_ev _ _ _ _ _ _ _ _ (by show List.length _ ≤ _; simp only; omega)) (decide_eq_true ⟨rfl, rfl, rfl, rfl⟩)) (ev_pos rfl (ev_pos rfl (ev_bind (ev_val (equalImage_ev _ _ _ _ _ _ _ _ (by show List.length _ ≤ _; simp only; omega)) (decide_eq_true ⟨rfl, rfl, rfl, rfl⟩)) (Ev.now _)))))))))
  simp only [laws_FnPatchImage.j0, Bool.not_true]
  rw [if_neg (by simp)]
end Go.Proofs.Ytbgohbinonkhfaa.Pure

/- The head of the translation reads as a plain cut. -/
namespace Go.Proofs.Ytbgohbinonkhfaa.Head
set_option maxRecDepth 100000
theorem wordsSigns_word (w r : List Char) (h : w.all (fun c => !(c == Char.ofNat 32)) = true) : wordsSigns (w ++ Char.ofNat 32 :: r) = w :: wordsSigns r := by
  induction w with
  | nil => rfl
  | cons c w ih =>
    simp only [List.all_cons, Bool.and_eq_true, Bool.not_eq_true', beq_eq_false_iff_ne, ne_eq] at h
    have h1 := ih (by simpa using h.2)
    rw [List.cons_append, wordsSigns.eq_3 c _ h.1, h1]
def w1 : List Char := [104, 97, 114, 110, 101, 115, 115].map Char.ofNat
def w2 : List Char := [51, 55, 55, 51, 100, 53, 51, 56, 50, 98, 53, 98, 101, 101, 49, 50, 100, 98, 57, 53, 100, 98, 101, 50, 51, 51, 101, 57, 100, 57, 52, 97, 99, 54, 53, 55, 97, 101, 56, 99, 55, 52, 99, 52, 48, 99, 57, 54, 54, 99, 100, 99, 48, 50, 56, 53, 54, 48, 100, 101, 100, 55, 52, 52].map Char.ofNat
def w3 : List Char := [99, 117, 116].map Char.ofNat
def w4 : List Char := [97, 116, 32, 108, 111, 111, 112, 46, 101, 120, 97, 109, 112, 108, 101, 47, 112, 105, 120, 101, 108, 119, 111, 114, 107, 115, 47, 108, 97, 119, 115, 46, 70, 110, 69, 120, 97, 99, 116, 67, 104, 97, 110, 103, 101, 100, 82, 101, 103, 105, 111, 110, 32, 108, 111, 111, 112, 46, 101, 120, 97, 109, 112, 108, 101, 47, 112, 105, 120, 101, 108, 119, 111, 114, 107, 115, 47, 108, 97, 119, 115, 46, 70, 110, 67, 104, 97, 110, 103, 101, 100, 82, 101, 103, 105, 111, 110, 32, 108, 111, 111, 112, 46, 101, 120, 97, 109, 112, 108, 101, 47, 112, 105, 120, 101, 108, 119, 111, 114, 107, 115, 47, 108, 97, 119, 115, 46, 70, 110, 69, 120, 97, 99, 116, 70, 108, 111, 111, 100, 82, 101, 103, 105, 111, 110, 32, 108, 111, 111, 112, 46, 101, 120, 97, 109, 112, 108, 101, 47, 112, 105, 120, 101, 108, 119, 111, 114, 107, 115, 47, 108, 97, 119, 115, 46, 70, 110, 70, 108, 111, 111, 100, 82, 101, 103, 105, 111, 110, 83, 97, 109, 101, 32, 108, 111, 111, 112, 46, 101, 120, 97, 109, 112, 108, 101, 47, 112, 105, 120, 101, 108, 119, 111, 114, 107, 115, 47, 108, 97, 119, 115, 46, 70, 110, 70, 108, 111, 111, 100, 82, 101, 103, 105, 111, 110, 32, 108, 111, 111, 112, 46, 101, 120, 97, 109, 112, 108, 101, 47, 112, 105, 120, 101, 108, 119, 111, 114, 107, 115, 47, 108, 97, 119, 115, 46, 70, 110, 69, 120, 97, 99, 116, 67, 104, 97, 110, 103, 101, 100, 66, 111, 120, 101, 115, 32, 108, 111, 111, 112, 46, 101, 120, 97, 109, 112, 108, 101, 47, 112, 105, 120, 101, 108, 119, 111, 114, 107, 115, 47, 108, 97, 119, 115, 46, 70, 110, 67, 104, 97, 110, 103, 101, 100, 66, 111, 120, 101, 115, 32, 108, 111, 111, 112, 46, 101, 120, 97, 109, 112, 108, 101, 47, 112, 105, 120, 101, 108, 119, 111, 114, 107, 115, 47, 108, 97, 119, 115, 46, 70, 110, 80, 97, 116, 99, 104, 73, 109, 97, 103, 101].map Char.ofNat
theorem signs0 : Try.prog.initOrder = String.ofList (w1 ++ Char.ofNat 32 :: (w2 ++ Char.ofNat 32 :: (w3 ++ Char.ofNat 32 :: w4))) := by kernel_rfl
theorem behind : behindMainWord (wordsSigns Try.prog.initOrder.toList) = w3 :: wordsSigns w4 := by
  rw [signs0, String.toList_ofList, wordsSigns_word w1 _ (by kernel_rfl), wordsSigns_word w2 _ (by kernel_rfl), wordsSigns_word w3 _ (by kernel_rfl)]
  unfold behindMainWord
  dsimp only
  rw [if_pos (by kernel_rfl)]
theorem strip_cut (R : List (List Char)) : stripLifts liftWords (w3 :: R) = ([], w3 :: R) := by kernel_rfl
theorem mayEnter_of (P : Program) (R : List (List Char)) (h : behindMainWord (wordsSigns P.initOrder.toList) = w3 :: R) (h1 : P.laysLater = false) (h2 : P.bearsReflect = false) (h3 : P.doorFits [] = true) : P.mayEnter = true := by
  unfold Program.mayEnter
  rw [h]
  dsimp only
  rw [strip_cut, h1, h2, h3]
  kernel_rfl
theorem liftsFinal_of (P : Program) (R : List (List Char)) (h : behindMainWord (wordsSigns P.initOrder.toList) = w3 :: R) : P.liftsFinal = false := by
  unfold Program.liftsFinal Program.headLifts
  rw [h]
  dsimp only
  rw [strip_cut]
  kernel_rfl
theorem make_of (P : Program) (R : List (List Char)) (h : behindMainWord (wordsSigns P.initOrder.toList) = w3 :: R) : P.make = some .cut := by
  unfold Program.make
  rw [h]
  kernel_rfl
theorem mayEnter : Try.prog.mayEnter = true := mayEnter_of _ _ behind (by kernel_rfl) (by kernel_rfl) (by kernel_rfl)
theorem liftsFinal : Try.prog.liftsFinal = false := liftsFinal_of _ _ behind
theorem make : Try.prog.make = some .cut := make_of _ _ behind
end Go.Proofs.Ytbgohbinonkhfaa.Head

-- PRINTED by print.py: the row of the law laws_FnPatchImage, out of its Pure (the session's) and the printed walk. Not trusted: Lean checks it.
namespace Go.Proofs.Ytbgohbinonkhfaa.fnPatchImage
open Go.ChangeShapes Go.WideShapes Go.ChangeAt Go.RowKit
open Go.ChangeMaps (open_string shut_string)
set_option linter.unusedVariables false
theorem own : ownKnob Try.prog.godebug = none := by kernel_rfl
theorem laidOut : laidOutB Try.prog = true := by kernel_rfl
def IsRow (k : IntKind) (w : World) (a : Option Addr) (len cap : Nat) (zs : List Int) : Prop :=
  (a = none ∧ len = 0 ∧ cap = 0 ∧ zs = []) ∨
  ∃ x, a = some x ∧ len ≤ cap ∧ cap ≤ maxLen ∧ zs.length = cap ∧ (∀ i, i < zs.length → w.cell? (x.add i) = some (.int k (zs.getD i 0))) ∧ ∀ n ∈ zs, (Lit.int k n).wf = true
set_option maxRecDepth 100000 in
theorem lifted (os : Os) (started : os.Started) (H : Type) (enc : TypeId × Value → H) :
    ReturnsInHanded {} Try.checked os 10 .any (Rows.fnPatchImageSpec.pre6 enc Try.prog Try.f10 Rows.fnPatchImageRow.domain false) (Rows.fnPatchImageSpec.post enc Try.prog Try.f10 false true false false) := by
  refine returnsInHanded_of_change_sized (C := Try.checked) own started (by kernel_rfl) Try.func10
    (ChangeSpec.witness6 (enc := enc) (C := Try.checked) false ⟨#[], #[.slice none 0 0], []⟩ 8 (by kernel_rfl) (by kernel_rfl) (by kernel_rfl) (by kernel_rfl)) ?_
  intro W base args ds gs before hval0 hW hcnd hsz0 _
  have hsz : (DataW.weightsEach Try.prog (Try.f10.params.toList ++ Rows.fnPatchImageSpec.plain.varTypes Try.prog) (ds ++ gs)).all (· ≤ reachBytes) = true := hsz0
  have hval : ∀ (j : Nat) t v, Try.f10.params[j]? = some t → args[j]? = some v → Value.okWide Try.prog W .any base t v := hval0
  have hW' := hW
  obtain ⟨p, q, hA0, hV, rfl, hfz, hnd⟩ := hW
  have hA : DataW.TrodAll enc Try.prog W 0 (fun _ => true) true Try.f10.params.toList args.toList ds p := hA0
  rw [Try.params10] at hA hval hsz
  obtain ⟨v0, vs0, d0, ds0, p0, q0, hargs, rfl, rfl, h0, r0⟩ := trodAll_cons hA
  obtain ⟨rfl, rfl, rfl⟩ := trodAll_nil r0
  obtain rfl : args = #[v0] := by cases args; simp_all
  obtain ⟨rfl, rfl⟩ := trodVars_none hV
  obtain ⟨a0, len0, cap0, rfl⟩ := okWide_slice Try.underlying35 (hval 0 35 v0 rfl rfl)
  have k0 := h0
  have lt0 : ∀ x ∈ p0, x.block < W.heap.size := by obtain ⟨m, hm⟩ := k0; exact DataW.trod_lt m _ _ _ hm
  obtain ⟨z0, w0⟩ : ∃ zs, IsRow .u8 W a0 len0 cap0 zs := by
    obtain ⟨fuel, hf⟩ := h0
    rcases open_ints Try.underlying35 Try.underlying5 (by kernel_rfl) hf with ⟨hcs, _⟩ | ⟨x, l, c, zs, hcs, _, hl, hm, hz, _, hcell, hwz⟩
    · simp [Value.cells] at hcs
      obtain ⟨rfl, rfl, rfl⟩ := hcs
      exact ⟨[], .inl ⟨rfl, rfl, rfl, rfl⟩⟩
    · simp [Value.cells] at hcs
      obtain ⟨rfl, rfl, rfl⟩ := hcs
      exact ⟨zs, .inr ⟨_, rfl, hl, hm, by simpa using hz, hcell, hwz⟩⟩
  have y0 : len0 * 1 ≤ 140737488351232 := Go.Proofs.YtbgohbinonkhfaaW.PrintWords.sized_ints hsz (j := 0) (t := 35) rfl rfl Try.underlying35 Try.underlying5 (by kernel_rfl) (by kernel_rfl) h0
  clear hA0 hval0 hsz0 hsz
  refine (Q.laws_FnPatchImage.walk Pure.FnPatchImage a0 len0 cap0 z0 W w0 y0).mono fun e W' ⟨he, bel⟩ => ?_
  subst he
  exact ⟨_, rfl, _, _, _, [], _, [], hW', trodAll_mk1 (shut_bool Try.underlying4 _), (trodAll_cons_mk (Below.trod laidOut (by kernel_rfl) (of_decide_eq_true (by kernel_rfl)) k0 bel lt0) trodAll_mk0), rfl, bel.frame _, fun h => by cases h⟩
set_option maxHeartbeats 4000000 in
theorem closed : joinedFacts Try.prog 10 Try.f10 Rows.fnPatchImageSpec Rows.fnPatchImageRow = true := by
  unfold joinedFacts
  rw [Head.mayEnter, Head.liftsFinal, Head.make]
  simp only [Bool.and_eq_true]
  repeat' apply And.intro
  all_goals first | exact True.intro | (as_aux_lemma => kernel_rfl)
theorem over : Rows.fnPatchImageRow.holds Try.pinned (OpenSpec.ofChange Rows.fnPatchImageSpec) :=
  OpenClaim.holds_of_wide 10 Try.f10 rfl rfl rfl rfl rfl rfl rfl ⟨rfl, rfl, rfl, rfl, rfl⟩ rfl rfl rfl rfl rfl (by kernel_rfl) Try.func10 closed
    (of_decide_eq_true (by kernel_rfl)) (by unfold Func.isWrapper; first | (rw [if_pos (by decide +kernel)]; kernel_rfl) | (rw [if_neg (by decide +kernel)]; exact ⟨rfl, rfl⟩))
    (fun os started H enc _ => lifted os started H enc)
theorem proved : Rows.FnPatchImageSaid := over
#print axioms proved
end Go.Proofs.Ytbgohbinonkhfaa.fnPatchImage
namespace Go.Proofs.Ytbgohbinonkhfaa
/-- The row, under a short name, for the claim. -/
theorem fnPatchImage_holds : Rows.FnPatchImageSaid := fnPatchImage.proved
end Go.Proofs.Ytbgohbinonkhfaa
