/- A part of the proof that the statement FnPatchImageTwiceSaid holds, under no condition of its own: A patch laid twice: the law FnPatchImageTwice over lists of numbers alone. -/
import Derived.Test.YtnofkbbcbpjhfaaCFnPatchImageTwice1
import Derived.Test.YtnofkbbcbpjhfaaCFnPatchImageTwice2
import Derived.Test.YtnofkbbcbpjhfaaCFnPatchImageTwice4
import Derived.Test.YtnofkbbcbpjhfaaRows
import Derived.JoinedOf
import Derived.KernelRfl
import Derived.WalkKit
import Derived.ProofKit
import Derived.OpenShut
import Derived.ShutString
import Derived.ChangeOld
import Derived.Below
import Derived.SizedLaws
import Derived.Test.YtnofkbbcbpjhfaaCFnPatchImageTwiceW1
namespace Go.Proofs.Ytnofkbbcbpjhfaa.Q
open Go.RowKit Go.Proofs.YtnofkbbcbpjhfaaW.PrintWords Go.Proofs.YtnofkbbcbpjhfaaW.PrintLast Go.Proofs.YtnofkbbcbpjhfaaW.PrintMore
attribute [local go_sem] max2_int min2_int max_two min_two max_three min_three max_four min_four
set_option linter.unusedVariables false
set_option linter.unusedSimpArgs false
open Go.Proofs.YtnofkbbcbpjhfaaW.PrintWords.Aside0 (mk)
set_option maxHeartbeats 12000000
set_option maxRecDepth 100000
mutual
def impl_PatchImage.j0 : Nat → List S47 → Bool → Int → Int → Int → List Int → Int → Int → Int → List Int → Option (Int × Int × Int × List Int × Bool)
 | 0, _, _, _, _, _, _, _, _, _, _ => none
 | k + 1, x2, x28, xz3, xz4, xz5, xz6, xz7, xz8, xz9, xz10 => if x28 = true then (some (0, 0, 0, ([] : List Int), false)) else (impl_PatchImage.l0 k x2 x2 (x2.length : Int) 0 xz3 xz4 xz5 xz6 xz7 xz8 xz9 xz10)
def impl_PatchImage.l0 : Nat → List S47 → List S47 → Int → Int → Int → Int → Int → List Int → Int → Int → Int → List Int → Option (Int × Int × Int × List Int × Bool)
 | 0, _, _, _, _, _, _, _, _, _, _, _, _ => none
 | k + 1, x2, x30, x31, x32, xz3, xz4, xz5, xz6, xz7, xz8, xz9, xz10 => if x32 < x31 then (if 0 ≤ x32 then (if x32 < (x30.length : Int) then ((impl_isBoxOn.f xz3 xz4 xz5 xz6 ((rd_T47 x30 x32).f0) ((rd_T47 x30 x32).f1) ((rd_T47 x30 x32).f2) ((rd_T47 x30 x32).f3)).bind fun tz6 => (if tz6 = true then (impl_PatchImage.l0 k x2 x30 x31 (wrap64 (x32 + 1)) xz3 xz4 xz5 xz6 xz7 xz8 xz9 xz10) else (some (0, 0, 0, ([] : List Int), false)))) else none) else none) else ((impl_patched.f xz3 xz4 xz5 xz6 xz7 xz8 xz9 xz10 x2).bind fun btz0 => (some (btz0.1, btz0.2.1, btz0.2.2.1, btz0.2.2.2, true)))
end
def impl_PatchImage.f (k : Nat) (a0_0 : Int) (a0_1 : Int) (a0_2 : Int) (l0_3 : List Int) (a1_0 : Int) (a1_1 : Int) (a1_2 : Int) (l1_3 : List Int) (l2 : List S47) : Option (Int × Int × Int × List Int × Bool) := (impl_isImage.f a0_0 a0_1 a0_2 l0_3).bind fun tz3 => (if tz3 = true then ((impl_isImage.f a1_0 a1_1 a1_2 l1_3).bind fun tz1 => (if tz1 = true then ((impl_alikeImages.f a0_0 a0_1 a0_2 l0_3 a1_0 a1_1 a1_2 l1_3).bind fun tz0 => (if tz0 = true then (impl_PatchImage.j0 k l2 (decide ((l2.length : Int) > 128)) a0_0 a0_1 a0_2 l0_3 a1_0 a1_1 a1_2 l1_3) else (impl_PatchImage.j0 k l2 true a0_0 a0_1 a0_2 l0_3 a1_0 a1_1 a1_2 l1_3))) else (impl_PatchImage.j0 k l2 true a0_0 a0_1 a0_2 l0_3 a1_0 a1_1 a1_2 l1_3))) else (impl_PatchImage.j0 k l2 true a0_0 a0_1 a0_2 l0_3 a1_0 a1_1 a1_2 l1_3))
theorem impl_PatchImage.calls (k : Nat) (a0_0 : Int) (a0_1 : Int) (a0_2 : Int) (A0_3 : Option Addr) (c0_3 : Nat) (l0_3 : List Int) (a1_0 : Int) (a1_1 : Int) (a1_2 : Int) (A1_3 : Option Addr) (c1_3 : Nat) (l1_3 : List Int) (A2 : Option Addr) (c2 : Nat) (l2 : List S47) (r1 : Int) (r2 : Int) (r3 : Int) (r4 : List Int) (r5 : Bool) (w : World) (hr0_3 : Kd.C (Kd.int .i64) w A0_3 l0_3.length l0_3) (hc0_3 : l0_3.length ≤ c0_3) (hr1_3 : Kd.C (Kd.int .i64) w A1_3 l1_3.length l1_3) (hc1_3 : l1_3.length ≤ c1_3) (hr2 : Kd.C k47 w A2 l2.length l2) (hc2 : l2.length ≤ c2) (h : impl_PatchImage.f k a0_0 a0_1 a0_2 l0_3 a1_0 a1_1 a1_2 l1_3 l2 = some (r1, r2, r3, r4, r5)) :
  Calls Try.prog 74 #[.agg #[.int .i64 a0_0, .int .i64 a0_1, .int .i64 a0_2, .slice A0_3 l0_3.length c0_3], .agg #[.int .i64 a1_0, .int .i64 a1_1, .int .i64 a1_2, .slice A1_3 l1_3.length c1_3], .slice A2 l2.length c2] w fun e w' => ∃ v3_ : Value, e = .returned (.tuple #[.agg #[.int .i64 r1, .int .i64 r2, .int .i64 r3, v3_], .bool r5]) ∧ Kd.R (Kd.int .i64) 3 w' w.heap.size (fun _ => True) v3_ r4 ∧ Below w.heap.size w w' := by
 have hu27 := Try.underlying27
 have hu47 := Try.underlying47
 have HR0_3 := mk hr0_3
 have HC0_3 := mk hc0_3
 clear hr0_3 hc0_3
 have HR1_3 := mk hr1_3
 have HC1_3 := mk hc1_3
 clear hr1_3 hc1_3
 have HR2 := mk hr2
 have HC2 := mk hc2
 clear hr2 hc2
 have HB := mk (Below.refl w.heap.size w)
 have H : ((impl_isImage.f a0_0 a0_1 a0_2 l0_3).bind fun tz3 => (if tz3 = true then ((impl_isImage.f a1_0 a1_1 a1_2 l1_3).bind fun tz1 => (if tz1 = true then ((impl_alikeImages.f a0_0 a0_1 a0_2 l0_3 a1_0 a1_1 a1_2 l1_3).bind fun tz0 => (if tz0 = true then (impl_PatchImage.j0 k l2 (decide ((l2.length : Int) > 128)) a0_0 a0_1 a0_2 l0_3 a1_0 a1_1 a1_2 l1_3) else (impl_PatchImage.j0 k l2 true a0_0 a0_1 a0_2 l0_3 a1_0 a1_1 a1_2 l1_3))) else (impl_PatchImage.j0 k l2 true a0_0 a0_1 a0_2 l0_3 a1_0 a1_1 a1_2 l1_3))) else (impl_PatchImage.j0 k l2 true a0_0 a0_1 a0_2 l0_3 a1_0 a1_1 a1_2 l1_3))) = some (r1, r2, r3, r4, r5) := h
 clear h
 have HC4 := mk H
 clear H
 go_enter Try.func74, Try.ntmps74
 go_upto_region 1 with (first | ((with_reducible refine gate_dst (N := 3) rfl ?_); (try (refine gate_guard (by rfl) ?_; dsimp only)); refine box_event (by rfl) (N := 3) (by rfl) (cs := #[.int .i64 a0_0, .int .i64 a0_1, .int .i64 a0_2, .slice A0_3 l0_3.length c0_3]) (t := 27) (by go_simp; done) ?_; intro gbz0 hg w5 hbox hb; replace HB := mk (below_step HB.out hb); have BKz0 := mk (hbox); clear hb hbox hg) | ((with_reducible refine gate_dst (N := 4) rfl ?_); (try (refine gate_guard (by rfl) ?_; dsimp only)); refine box_event (by rfl) (N := 4) (by rfl) (cs := #[.int .i64 a1_0, .int .i64 a1_1, .int .i64 a1_2, .slice A1_3 l1_3.length c1_3]) (t := 27) (by go_simp; done) ?_; intro gbz1 hg w6 hbox hb; replace HB := mk (below_step HB.out hb); have BKz2 := mk (hbox); have NBz5 := mk ((by rw [hg]; exact Nat.ne_of_lt (blk_lt BKz0.out) : gbz0 ≠ gbz1)); have NBz6 := mk ((by rw [hg]; exact Nat.ne_of_gt (blk_lt BKz0.out) : gbz1 ≠ gbz0)); replace BKz0 := mk (blk_below BKz0.out hb); clear hb hbox hg) | ((with_reducible refine gate_dst (N := 6) rfl ?_); (try (refine gate_guard (by rfl) ?_; dsimp only)); refine box_event (by rfl) (N := 6) (by rfl) (cs := #[.int .i64 0, .int .i64 0, .int .i64 0, .slice none 0 0]) (t := 27) (by go_simp; done) ?_; intro gbz2 hg w7 hbox hb; replace BKz2 := mk (blk_below BKz2.out hb); have BKz1 := mk (hbox); have GEz1 := mk ((by rw [hg]; exact (below_size HB.out) : w.heap.size ≤ gbz2)); replace HB := mk (below_step HB.out hb); have NBz7 := mk ((by rw [hg]; exact Nat.ne_of_lt (blk_lt BKz0.out) : gbz0 ≠ gbz2)); have NBz8 := mk ((by rw [hg]; exact Nat.ne_of_gt (blk_lt BKz0.out) : gbz2 ≠ gbz0)); replace BKz0 := mk (blk_below BKz0.out hb); clear hb hbox hg))
 go_cut [28] (fun v28 wc => ∃ (kq : Nat) (x28_3 : Bool), v28 = .bool x28_3 ∧ Aside0 (impl_PatchImage.j0 kq l2 x28_3 a0_0 a0_1 a0_2 l0_3 a1_0 a1_1 a1_2 l1_3 = some (r1, r2, r3, r4, r5)) ∧ Aside0 (kq ≤ k) ∧ Aside0 (wc.heap[gbz0]? = some (.cells #[.int .i64 a0_0, .int .i64 a0_1, .int .i64 a0_2, (.slice A0_3 l0_3.length c0_3)] 27 (0, 0))) ∧ Aside0 (wc.heap[gbz1]? = some (.cells #[.int .i64 a1_0, .int .i64 a1_1, .int .i64 a1_2, (.slice A1_3 l1_3.length c1_3)] 27 (0, 0))) ∧ Aside0 (wc.heap[gbz2]? = some (.cells #[.int .i64 0, .int .i64 0, .int .i64 0, (.slice none 0 0)] 27 (0, 0))) ∧ Aside0 (Below w.heap.size w wc))
 case first =>
  have H := HC4.out
  clear HC4
  replace H := Option.bind_eq_some_iff.mp H
  obtain ⟨tz3, A80, H⟩ := H
  replace H : (if tz3 = true then ((impl_isImage.f a1_0 a1_1 a1_2 l1_3).bind fun tz1 => (if tz1 = true then ((impl_alikeImages.f a0_0 a0_1 a0_2 l0_3 a1_0 a1_1 a1_2 l1_3).bind fun tz0 => (if tz0 = true then (impl_PatchImage.j0 k l2 (decide ((l2.length : Int) > 128)) a0_0 a0_1 a0_2 l0_3 a1_0 a1_1 a1_2 l1_3) else (impl_PatchImage.j0 k l2 true a0_0 a0_1 a0_2 l0_3 a1_0 a1_1 a1_2 l1_3))) else (impl_PatchImage.j0 k l2 true a0_0 a0_1 a0_2 l0_3 a1_0 a1_1 a1_2 l1_3))) else (impl_PatchImage.j0 k l2 true a0_0 a0_1 a0_2 l0_3 a1_0 a1_1 a1_2 l1_3)) = some (r1, r2, r3, r4, r5) := H
  have A8 := mk A80
  clear A80
  by_cases c9 : tz3 = true
  ·subst c9
   have H1 : ((impl_isImage.f a1_0 a1_1 a1_2 l1_3).bind fun tz1 => (if tz1 = true then ((impl_alikeImages.f a0_0 a0_1 a0_2 l0_3 a1_0 a1_1 a1_2 l1_3).bind fun tz0 => (if tz0 = true then (impl_PatchImage.j0 k l2 (decide ((l2.length : Int) > 128)) a0_0 a0_1 a0_2 l0_3 a1_0 a1_1 a1_2 l1_3) else (impl_PatchImage.j0 k l2 true a0_0 a0_1 a0_2 l0_3 a1_0 a1_1 a1_2 l1_3))) else (impl_PatchImage.j0 k l2 true a0_0 a0_1 a0_2 l0_3 a1_0 a1_1 a1_2 l1_3))) = some (r1, r2, r3, r4, r5) := by rw [if_pos rfl] at H; exact H
   clear H
   have H := H1
   clear H1
   replace H := Option.bind_eq_some_iff.mp H
   obtain ⟨tz1, A100, H⟩ := H
   replace H : (if tz1 = true then ((impl_alikeImages.f a0_0 a0_1 a0_2 l0_3 a1_0 a1_1 a1_2 l1_3).bind fun tz0 => (if tz0 = true then (impl_PatchImage.j0 k l2 (decide ((l2.length : Int) > 128)) a0_0 a0_1 a0_2 l0_3 a1_0 a1_1 a1_2 l1_3) else (impl_PatchImage.j0 k l2 true a0_0 a0_1 a0_2 l0_3 a1_0 a1_1 a1_2 l1_3))) else (impl_PatchImage.j0 k l2 true a0_0 a0_1 a0_2 l0_3 a1_0 a1_1 a1_2 l1_3)) = some (r1, r2, r3, r4, r5) := H
   have A10 := mk A100
   clear A100
   by_cases c11 : tz1 = true
   ·subst c11
    have H1 : ((impl_alikeImages.f a0_0 a0_1 a0_2 l0_3 a1_0 a1_1 a1_2 l1_3).bind fun tz0 => (if tz0 = true then (impl_PatchImage.j0 k l2 (decide ((l2.length : Int) > 128)) a0_0 a0_1 a0_2 l0_3 a1_0 a1_1 a1_2 l1_3) else (impl_PatchImage.j0 k l2 true a0_0 a0_1 a0_2 l0_3 a1_0 a1_1 a1_2 l1_3))) = some (r1, r2, r3, r4, r5) := by rw [if_pos rfl] at H; exact H
    clear H
    have H := H1
    clear H1
    replace H := Option.bind_eq_some_iff.mp H
    obtain ⟨tz0, A120, H⟩ := H
    replace H : (if tz0 = true then (impl_PatchImage.j0 k l2 (decide ((l2.length : Int) > 128)) a0_0 a0_1 a0_2 l0_3 a1_0 a1_1 a1_2 l1_3) else (impl_PatchImage.j0 k l2 true a0_0 a0_1 a0_2 l0_3 a1_0 a1_1 a1_2 l1_3)) = some (r1, r2, r3, r4, r5) := H
    have A12 := mk A120
    clear A120
    by_cases c13 : tz0 = true
    ·subst c13
     have H1 : (impl_PatchImage.j0 k l2 (decide ((l2.length : Int) > 128)) a0_0 a0_1 a0_2 l0_3 a1_0 a1_1 a1_2 l1_3) = some (r1, r2, r3, r4, r5) := by rw [if_pos rfl] at H; exact H
     clear H
     have H := H1
     clear H1
     have H' := mk H
     clear H
     obtain ⟨hcz16_0, hcz16_1, hcz16_2, hcz16_3, -⟩ := c4 BKz0.out
     go_wp2_with (first | ((with_reducible refine gate_callee (f := 83) rfl ?_); refine goesL_ (some 11) rfl rfl Try.func83 (by kernel_rfl) rfl #[.agg #[.int .i64 a0_0, .int .i64 a0_1, .int .i64 a0_2, .slice A0_3 l0_3.length c0_3]] rfl (by (try simp only [bitvec_to_nat]); rfl) ?_; (with_reducible refine (impl_isImage.calls a0_0 a0_1 a0_2 _ _ l0_3 true _ ?side1 ?side2 A8.out).mono ?_); (case side1 => repeat (exact (Kd.C_below HR0_3.out HB.out))); (case side2 => exact HC0_3.out); rintro e w17 ⟨rfl, hb⟩; refine ⟨_, rfl, ?_⟩; replace BKz0 := mk (blk_below BKz0.out hb); replace BKz2 := mk (blk_below BKz2.out hb); replace BKz1 := mk (blk_below BKz1.out hb); replace HB := mk (below_step HB.out hb); (try clear hb); obtain ⟨hcz19_0, hcz19_1, hcz19_2, -⟩ := c4 BKz2.out; have hcz19_3 : w17.cell? ⟨gbz1, 3, none⟩ = some (.slice A1_3 l1_3.length c1_3) := (blk_cell BKz2.out 3).trans rfl) | (go_at_call 83; (with_reducible refine (impl_isImage.calls a1_0 a1_1 a1_2 _ _ l1_3 true _ ?side1 ?side2 A10.out).mono ?_); (case side1 => repeat (exact (Kd.C_below HR1_3.out HB.out))); (case side2 => exact HC1_3.out); rintro e w20 ⟨rfl, hb⟩; replace BKz0 := mk (blk_below BKz0.out hb); replace BKz2 := mk (blk_below BKz2.out hb); replace BKz1 := mk (blk_below BKz1.out hb); replace HB := mk (below_step HB.out hb); (try clear hb); obtain ⟨hcz21_0, hcz21_1, hcz21_2, hcz21_3, -⟩ := c4 BKz0.out; obtain ⟨hcz22_0, hcz22_1, hcz22_2, -⟩ := c4 BKz2.out; have hcz22_3 : w20.cell? ⟨gbz1, 3, none⟩ = some (.slice A1_3 l1_3.length c1_3) := (blk_cell BKz2.out 3).trans rfl) | (go_at_call 84; (with_reducible refine (impl_alikeImages.calls a0_0 a0_1 a0_2 _ _ l0_3 a1_0 a1_1 a1_2 _ _ l1_3 true _ ?side1 ?side2 ?side3 ?side4 A12.out).mono ?_); (case side1 => repeat (exact (Kd.C_below HR0_3.out HB.out))); (case side2 => exact HC0_3.out); (case side3 => repeat (exact (Kd.C_below HR1_3.out HB.out))); (case side4 => exact HC1_3.out); rintro e w23 ⟨rfl, hb⟩; replace BKz0 := mk (blk_below BKz0.out hb); replace BKz2 := mk (blk_below BKz2.out hb); replace BKz1 := mk (blk_below BKz1.out hb); replace HB := mk (below_step HB.out hb); (try clear hb)))
     go_meet
     case rel => exact ⟨_, (decide ((l2.length : Int) > 128)), (by rfl), H', ⟨by omega⟩, BKz0, BKz2, BKz1, HB⟩
    replace c13 := Bool.eq_false_iff.mpr c13
    subst c13
    have H1 : (impl_PatchImage.j0 k l2 true a0_0 a0_1 a0_2 l0_3 a1_0 a1_1 a1_2 l1_3) = some (r1, r2, r3, r4, r5) := by rw [if_neg (show ¬ (false = true) by decide)] at H; exact H
    clear H
    have H := H1
    clear H1
    have H' := mk H
    clear H
    obtain ⟨hcz26_0, hcz26_1, hcz26_2, hcz26_3, -⟩ := c4 BKz0.out
    go_wp2_with (first | ((with_reducible refine gate_callee (f := 83) rfl ?_); refine goesL_ (some 11) rfl rfl Try.func83 (by kernel_rfl) rfl #[.agg #[.int .i64 a0_0, .int .i64 a0_1, .int .i64 a0_2, .slice A0_3 l0_3.length c0_3]] rfl (by (try simp only [bitvec_to_nat]); rfl) ?_; (with_reducible refine (impl_isImage.calls a0_0 a0_1 a0_2 _ _ l0_3 true _ ?side1 ?side2 A8.out).mono ?_); (case side1 => repeat (exact (Kd.C_below HR0_3.out HB.out))); (case side2 => exact HC0_3.out); rintro e w27 ⟨rfl, hb⟩; refine ⟨_, rfl, ?_⟩; replace BKz0 := mk (blk_below BKz0.out hb); replace BKz2 := mk (blk_below BKz2.out hb); replace BKz1 := mk (blk_below BKz1.out hb); replace HB := mk (below_step HB.out hb); (try clear hb); obtain ⟨hcz29_0, hcz29_1, hcz29_2, -⟩ := c4 BKz2.out; have hcz29_3 : w27.cell? ⟨gbz1, 3, none⟩ = some (.slice A1_3 l1_3.length c1_3) := (blk_cell BKz2.out 3).trans rfl) | (go_at_call 83; (with_reducible refine (impl_isImage.calls a1_0 a1_1 a1_2 _ _ l1_3 true _ ?side1 ?side2 A10.out).mono ?_); (case side1 => repeat (exact (Kd.C_below HR1_3.out HB.out))); (case side2 => exact HC1_3.out); rintro e w30 ⟨rfl, hb⟩; replace BKz0 := mk (blk_below BKz0.out hb); replace BKz2 := mk (blk_below BKz2.out hb); replace BKz1 := mk (blk_below BKz1.out hb); replace HB := mk (below_step HB.out hb); (try clear hb); obtain ⟨hcz31_0, hcz31_1, hcz31_2, hcz31_3, -⟩ := c4 BKz0.out; obtain ⟨hcz32_0, hcz32_1, hcz32_2, -⟩ := c4 BKz2.out; have hcz32_3 : w30.cell? ⟨gbz1, 3, none⟩ = some (.slice A1_3 l1_3.length c1_3) := (blk_cell BKz2.out 3).trans rfl) | (go_at_call 84; (with_reducible refine (impl_alikeImages.calls a0_0 a0_1 a0_2 _ _ l0_3 a1_0 a1_1 a1_2 _ _ l1_3 false _ ?side1 ?side2 ?side3 ?side4 A12.out).mono ?_); (case side1 => repeat (exact (Kd.C_below HR0_3.out HB.out))); (case side2 => exact HC0_3.out); (case side3 => repeat (exact (Kd.C_below HR1_3.out HB.out))); (case side4 => exact HC1_3.out); rintro e w33 ⟨rfl, hb⟩; replace BKz0 := mk (blk_below BKz0.out hb); replace BKz2 := mk (blk_below BKz2.out hb); replace BKz1 := mk (blk_below BKz1.out hb); replace HB := mk (below_step HB.out hb); (try clear hb)))
    go_meet
    case rel => exact ⟨_, (true), (by rfl), H', ⟨by omega⟩, BKz0, BKz2, BKz1, HB⟩
   replace c11 := Bool.eq_false_iff.mpr c11
   subst c11
   have H1 : (impl_PatchImage.j0 k l2 true a0_0 a0_1 a0_2 l0_3 a1_0 a1_1 a1_2 l1_3) = some (r1, r2, r3, r4, r5) := by rw [if_neg (show ¬ (false = true) by decide)] at H; exact H
   clear H
   have H := H1
   clear H1
   have H' := mk H
   clear H
   obtain ⟨hcz36_0, hcz36_1, hcz36_2, hcz36_3, -⟩ := c4 BKz0.out
   go_wp2_with (first | ((with_reducible refine gate_callee (f := 83) rfl ?_); refine goesL_ (some 11) rfl rfl Try.func83 (by kernel_rfl) rfl #[.agg #[.int .i64 a0_0, .int .i64 a0_1, .int .i64 a0_2, .slice A0_3 l0_3.length c0_3]] rfl (by (try simp only [bitvec_to_nat]); rfl) ?_; (with_reducible refine (impl_isImage.calls a0_0 a0_1 a0_2 _ _ l0_3 true _ ?side1 ?side2 A8.out).mono ?_); (case side1 => repeat (exact (Kd.C_below HR0_3.out HB.out))); (case side2 => exact HC0_3.out); rintro e w37 ⟨rfl, hb⟩; refine ⟨_, rfl, ?_⟩; replace BKz0 := mk (blk_below BKz0.out hb); replace BKz2 := mk (blk_below BKz2.out hb); replace BKz1 := mk (blk_below BKz1.out hb); replace HB := mk (below_step HB.out hb); (try clear hb); obtain ⟨hcz39_0, hcz39_1, hcz39_2, -⟩ := c4 BKz2.out; have hcz39_3 : w37.cell? ⟨gbz1, 3, none⟩ = some (.slice A1_3 l1_3.length c1_3) := (blk_cell BKz2.out 3).trans rfl) | (go_at_call 83; (with_reducible refine (impl_isImage.calls a1_0 a1_1 a1_2 _ _ l1_3 false _ ?side1 ?side2 A10.out).mono ?_); (case side1 => repeat (exact (Kd.C_below HR1_3.out HB.out))); (case side2 => exact HC1_3.out); rintro e w40 ⟨rfl, hb⟩; replace BKz0 := mk (blk_below BKz0.out hb); replace BKz2 := mk (blk_below BKz2.out hb); replace BKz1 := mk (blk_below BKz1.out hb); replace HB := mk (below_step HB.out hb); (try clear hb)))
   go_meet
   case rel => exact ⟨_, (true), (by rfl), H', ⟨by omega⟩, BKz0, BKz2, BKz1, HB⟩
  replace c9 := Bool.eq_false_iff.mpr c9
  subst c9
  have H1 : (impl_PatchImage.j0 k l2 true a0_0 a0_1 a0_2 l0_3 a1_0 a1_1 a1_2 l1_3) = some (r1, r2, r3, r4, r5) := by rw [if_neg (show ¬ (false = true) by decide)] at H; exact H
  clear H
  have H := H1
  clear H1
  have H' := mk H
  clear H
  obtain ⟨hcz43_0, hcz43_1, hcz43_2, hcz43_3, -⟩ := c4 BKz0.out
  go_wp2_with (first | ((with_reducible refine gate_callee (f := 83) rfl ?_); refine goesL_ (some 11) rfl rfl Try.func83 (by kernel_rfl) rfl #[.agg #[.int .i64 a0_0, .int .i64 a0_1, .int .i64 a0_2, .slice A0_3 l0_3.length c0_3]] rfl (by (try simp only [bitvec_to_nat]); rfl) ?_; (with_reducible refine (impl_isImage.calls a0_0 a0_1 a0_2 _ _ l0_3 false _ ?side1 ?side2 A8.out).mono ?_); (case side1 => repeat (exact (Kd.C_below HR0_3.out HB.out))); (case side2 => exact HC0_3.out); rintro e w44 ⟨rfl, hb⟩; refine ⟨_, rfl, ?_⟩; replace BKz0 := mk (blk_below BKz0.out hb); replace BKz2 := mk (blk_below BKz2.out hb); replace BKz1 := mk (blk_below BKz1.out hb); replace HB := mk (below_step HB.out hb); (try clear hb)))
  go_meet
  case rel => exact ⟨_, (true), (by rfl), H', ⟨by omega⟩, BKz0, BKz2, BKz1, HB⟩
 case rest =>
  clear HC4
  obtain ⟨kq, x28_3, rfl, HA, HJ3, BKz0, BKz2, BKz1, HB⟩ := hcut
  cases kq with
  | zero => exact absurd HA.out (by simp [impl_PatchImage.j0])
  | succ kj3 =>
   have H := HA.out
   clear HA
   simp only [impl_PatchImage.j0] at H
   by_cases c45 : x28_3 = true
   ·subst c45
    have H1 : (some (0, 0, 0, ([] : List Int), false)) = some (r1, r2, r3, r4, r5) := by rw [if_pos rfl] at H; exact H
    clear H
    have H := H1
    clear H1
    simp only [Option.some.injEq, Prod.mk.injEq] at H
    obtain ⟨rfl, rfl, rfl, rfl, rfl⟩ := H
    obtain ⟨hcz48_0, hcz48_1, hcz48_2, hcz48_3, hfz48_0, hfz48_1, hfz48_2, hfz48_3⟩ := c4 BKz1.out
    go_wp2
    refine bodyPost_ret (results_ct rfl _ _ gbz2 27 #[.int .i64 0, .int .i64 0, .int .i64 0, .slice none 0 0] (0, 0) _ rfl (by refine blk_put (cs := #[.int .i64 0, .int .i64 0, .int .i64 0, .slice none 0 0]) ?_ 3 _ rfl; refine blk_put (cs := #[.int .i64 0, .int .i64 0, .int .i64 0, .slice none 0 0]) ?_ 2 _ rfl; refine blk_put (cs := #[.int .i64 0, .int .i64 0, .int .i64 0, .slice none 0 0]) ?_ 1 _ rfl; refine blk_put (cs := #[.int .i64 0, .int .i64 0, .int .i64 0, .slice none 0 0]) ?_ 0 _ rfl; exact BKz1.out) Try.underlying27 rfl (by kernel_rfl)) rfl ?_
    exact ⟨_, by rfl, by exact Kd.R_nil _ _ _ _ _, by repeat (with_reducible first | exact HB.out | refine below_set ?_ GEz1.out)⟩
   replace c45 := Bool.eq_false_iff.mpr c45
   subst c45
   have H1 : (impl_PatchImage.l0 kj3 l2 l2 (l2.length : Int) 0 a0_0 a0_1 a0_2 l0_3 a1_0 a1_1 a1_2 l1_3) = some (r1, r2, r3, r4, r5) := by rw [if_neg (show ¬ (false = true) by decide)] at H; exact H
   clear H
   have H := H1
   clear H1
   have H' := mk H
   clear H
   go_wp2
   go_loopg [32] kj3 (fun kq v32 w' => ∃ (x32_2 : Int) (xz2 : Int) (xz1 : Int) (xz0 : Int), v32 = .int .i64 x32_2 ∧ Aside0 (impl_PatchImage.l0 kq l2 l2 (l2.length : Int) x32_2 a0_0 a0_1 a0_2 l0_3 a1_0 a1_1 a1_2 l1_3 = some (r1, r2, r3, r4, r5)) ∧ Aside0 (kq ≤ kj3) ∧ Aside0 (w'.heap[gbz0]? = some (.cells #[.int .i64 a0_0, .int .i64 a0_1, .int .i64 a0_2, (.slice A0_3 l0_3.length c0_3)] 27 (0, 0))) ∧ Aside0 (w'.heap[gbz1]? = some (.cells #[.int .i64 a1_0, .int .i64 a1_1, .int .i64 a1_2, (.slice A1_3 l1_3.length c1_3)] 27 (0, 0))) ∧ Aside0 (w'.heap[gbz2]? = some (.cells #[.int .i64 xz2, .int .i64 xz1, .int .i64 xz0, (.slice none 0 0)] 27 (0, 0))) ∧ Aside0 (Below w.heap.size w w'))
   case atStart => exact ⟨(0), (0), (0), (0), (by rfl), H', ⟨Nat.le_refl _⟩, BKz0, BKz2, BKz1, HB⟩
   case round =>
    clear H'
    obtain ⟨x32_2, xz2, xz1, xz0, rfl, HA, HK2, BKz0, BKz2, BKz1, HB⟩ := hrel
    cases gk with
    | zero => exact absurd HA.out (by simp [impl_PatchImage.l0])
    | succ k2 =>
     have H := HA.out
     clear HA
     simp only [impl_PatchImage.l0] at H
     by_cases c49 : x32_2 < (l2.length : Int)
     ·rw [if_pos c49] at H
      have c49b0 : decide (x32_2 < (l2.length : Int)) = true := decide_eq_true c49
      clear c49
      by_cases c50 : 0 ≤ x32_2
      ·rw [if_pos c50] at H
       have c50b0 : decide (0 ≤ x32_2) = true := decide_eq_true c50
       clear c50
       by_cases c51 : x32_2 < (l2.length : Int)
       ·rw [if_pos c51] at H
        have c51b0 : decide (x32_2 < (l2.length : Int)) = true := decide_eq_true c51
        clear c51
        replace H := Option.bind_eq_some_iff.mp H
        obtain ⟨tz6, A520, H⟩ := H
        replace H : (if tz6 = true then (impl_PatchImage.l0 k2 l2 l2 (l2.length : Int) (wrap64 (x32_2 + 1)) a0_0 a0_1 a0_2 l0_3 a1_0 a1_1 a1_2 l1_3) else (some (0, 0, 0, ([] : List Int), false))) = some (r1, r2, r3, r4, r5) := H
        have A52 := mk A520
        clear A520
        by_cases c53 : tz6 = true
        ·subst c53
         have H1 : (impl_PatchImage.l0 k2 l2 l2 (l2.length : Int) (wrap64 (x32_2 + 1)) a0_0 a0_1 a0_2 l0_3 a1_0 a1_1 a1_2 l1_3) = some (r1, r2, r3, r4, r5) := by rw [if_pos rfl] at H; exact H
         clear H
         have H := H1
         clear H1
         have H' := mk H
         clear H
         have p75007 : 0 ≤ (x32_2 : Int) := of_decide_eq_true (by (with_reducible assumption))
         have q75007 : x32_2 < (l2.length : Int) := of_decide_eq_true (by (with_reducible assumption))
         obtain ⟨ad75007, e75007, hx75007_0, hx75007_1, hx75007_2, hx75007_3⟩ := at_T47 HR2.out x32_2 p75007 q75007
         cases e75007
         replace hx75007_0 := bc HB.out hx75007_0
         replace hx75007_1 := bc HB.out hx75007_1
         replace hx75007_2 := bc HB.out hx75007_2
         replace hx75007_3 := bc HB.out hx75007_3
         replace p75007 := eq_true p75007
         replace q75007 := eq_true q75007
         go_wp2_with (first | ((with_reducible refine gate_dst (N := 9) rfl ?_); (try (refine gate_guard (by rfl) ?_; dsimp only)); refine box_event (by rfl) (N := 9) (by rfl) (cs := #[.int .i64 0, .int .i64 0, .int .i64 0, .int .i64 0]) (t := 47) (by go_simp; done) ?_; intro gbz3 hg w54 hbox hb; have BKz3 := mk (hbox); have GEz0 := mk ((by rw [hg]; exact (below_size HB.out) : w.heap.size ≤ gbz3)); replace HB := mk (below_step HB.out hb); have NBz1 := mk ((by rw [hg]; exact Nat.ne_of_lt (blk_lt BKz0.out) : gbz0 ≠ gbz3)); replace BKz0 := mk (blk_below BKz0.out hb); have NBz2 := mk ((by rw [hg]; exact Nat.ne_of_lt (blk_lt BKz2.out) : gbz1 ≠ gbz3)); have NBz3 := mk ((by rw [hg]; exact Nat.ne_of_gt (blk_lt BKz2.out) : gbz3 ≠ gbz1)); replace BKz2 := mk (blk_below BKz2.out hb); have NBz0 := mk ((by rw [hg]; exact Nat.ne_of_lt (blk_lt BKz1.out) : gbz2 ≠ gbz3)); have NBz4 := mk ((by rw [hg]; exact Nat.ne_of_gt (blk_lt BKz1.out) : gbz3 ≠ gbz2)); replace BKz1 := mk (blk_below BKz1.out hb); clear hb hbox hg; have hnc55 := NBz1.out; have hnb56 := NBz3.out; have hnc56 := NBz2.out; have hnb57 := NBz4.out; have hnc57 := NBz0.out; obtain ⟨hcz58_0, hcz58_1, hcz58_2, hcz58_3, hfz58_0, hfz58_1, hfz58_2, hfz58_3⟩ := c4 BKz3.out; have hnb59 := NBz5.out; have hnc59 := NBz6.out; have hnb60 := NBz7.out; have hnc60 := NBz8.out; obtain ⟨hcz61_0, hcz61_1, hcz61_2, -⟩ := c4 BKz0.out; have hcz61_3 : w54.cell? ⟨gbz0, 3, none⟩ = some (.slice A0_3 l0_3.length c0_3) := (blk_cell BKz0.out 3).trans rfl) | ((with_reducible refine gate_callee (f := 106) rfl ?_); refine goesL_ (some 38) rfl rfl Try.func106 (by kernel_rfl) rfl #[.agg #[.int .i64 a0_0, .int .i64 a0_1, .int .i64 a0_2, .slice A0_3 l0_3.length c0_3], .agg #[.int .i64 ((rd_T47 l2 x32_2).f0), .int .i64 ((rd_T47 l2 x32_2).f1), .int .i64 ((rd_T47 l2 x32_2).f2), .int .i64 ((rd_T47 l2 x32_2).f3)]] rfl (by (try simp only [bitvec_to_nat]); rfl) ?_; (with_reducible refine (impl_isBoxOn.calls a0_0 a0_1 a0_2 _ _ l0_3 ((rd_T47 l2 x32_2).f0) ((rd_T47 l2 x32_2).f1) ((rd_T47 l2 x32_2).f2) ((rd_T47 l2 x32_2).f3) true _ ?side1 ?side2 A52.out).mono ?_); (case side1 => exact Kd.C_below HR0_3.out (by repeat (with_reducible first | exact HB.out | refine below_set ?_ GEz0.out))); (case side2 => exact HC0_3.out); rintro e w62 ⟨rfl, hb⟩; refine ⟨_, rfl, ?_⟩; have n0_ := mk (blk_below (g := gbz0) (o := .cells #[.int .i64 a0_0, .int .i64 a0_1, .int .i64 a0_2, .slice A0_3 l0_3.length c0_3] 27 (0, 0)) (by refine blk_far ?_ NBz1.out _; refine blk_far ?_ NBz1.out _; refine blk_far ?_ NBz1.out _; refine blk_far ?_ NBz1.out _; exact BKz0.out) hb); have n1_ := mk (blk_below (g := gbz1) (o := .cells #[.int .i64 a1_0, .int .i64 a1_1, .int .i64 a1_2, .slice A1_3 l1_3.length c1_3] 27 (0, 0)) (by refine blk_far ?_ NBz2.out _; refine blk_far ?_ NBz2.out _; refine blk_far ?_ NBz2.out _; refine blk_far ?_ NBz2.out _; exact BKz2.out) hb); have n2_ := mk (blk_below (g := gbz2) (o := .cells #[.int .i64 xz2, .int .i64 xz1, .int .i64 xz0, .slice none 0 0] 27 (0, 0)) (by refine blk_far ?_ NBz0.out _; refine blk_far ?_ NBz0.out _; refine blk_far ?_ NBz0.out _; refine blk_far ?_ NBz0.out _; exact BKz1.out) hb); have n4_ := mk (below_step (by repeat (with_reducible first | exact HB.out | refine below_set ?_ GEz0.out)) hb); clear BKz0; clear BKz2; clear BKz1; clear BKz3; clear HB; have BKz0 := n0_; have BKz2 := n1_; have BKz1 := n2_; have HB := n4_; (try clear hb)))
         go_roundg k2
         case measure => have := HJ3.out; have := HK2.out; omega
         case rel => exact ⟨(wrap64 (x32_2 + 1)), (xz2), (xz1), (xz0), (by rfl), H', ⟨by have := HJ3.out; have := HK2.out; omega⟩, BKz0, BKz2, BKz1, HB⟩
        replace c53 := Bool.eq_false_iff.mpr c53
        subst c53
        have H1 : (some (0, 0, 0, ([] : List Int), false)) = some (r1, r2, r3, r4, r5) := by rw [if_neg (show ¬ (false = true) by decide)] at H; exact H
        clear H
        have H := H1
        clear H1
        simp only [Option.some.injEq, Prod.mk.injEq] at H
        obtain ⟨rfl, rfl, rfl, rfl, rfl⟩ := H
        have p75007 : 0 ≤ (x32_2 : Int) := of_decide_eq_true (by (with_reducible assumption))
        have q75007 : x32_2 < (l2.length : Int) := of_decide_eq_true (by (with_reducible assumption))
        obtain ⟨ad75007, e75007, hx75007_0, hx75007_1, hx75007_2, hx75007_3⟩ := at_T47 HR2.out x32_2 p75007 q75007
        cases e75007
        replace hx75007_0 := bc HB.out hx75007_0
        replace hx75007_1 := bc HB.out hx75007_1
        replace hx75007_2 := bc HB.out hx75007_2
        replace hx75007_3 := bc HB.out hx75007_3
        replace p75007 := eq_true p75007
        replace q75007 := eq_true q75007
        go_wp2_with (first | ((with_reducible refine gate_dst (N := 9) rfl ?_); (try (refine gate_guard (by rfl) ?_; dsimp only)); refine box_event (by rfl) (N := 9) (by rfl) (cs := #[.int .i64 0, .int .i64 0, .int .i64 0, .int .i64 0]) (t := 47) (by go_simp; done) ?_; intro gbz3 hg w63 hbox hb; have BKz3 := mk (hbox); have GEz0 := mk ((by rw [hg]; exact (below_size HB.out) : w.heap.size ≤ gbz3)); replace HB := mk (below_step HB.out hb); have NBz1 := mk ((by rw [hg]; exact Nat.ne_of_lt (blk_lt BKz0.out) : gbz0 ≠ gbz3)); replace BKz0 := mk (blk_below BKz0.out hb); have NBz2 := mk ((by rw [hg]; exact Nat.ne_of_lt (blk_lt BKz2.out) : gbz1 ≠ gbz3)); have NBz3 := mk ((by rw [hg]; exact Nat.ne_of_gt (blk_lt BKz2.out) : gbz3 ≠ gbz1)); replace BKz2 := mk (blk_below BKz2.out hb); have NBz0 := mk ((by rw [hg]; exact Nat.ne_of_lt (blk_lt BKz1.out) : gbz2 ≠ gbz3)); have NBz4 := mk ((by rw [hg]; exact Nat.ne_of_gt (blk_lt BKz1.out) : gbz3 ≠ gbz2)); replace BKz1 := mk (blk_below BKz1.out hb); clear hb hbox hg; have hnc64 := NBz1.out; have hnb65 := NBz3.out; have hnc65 := NBz2.out; have hnb66 := NBz4.out; have hnc66 := NBz0.out; obtain ⟨hcz67_0, hcz67_1, hcz67_2, hcz67_3, hfz67_0, hfz67_1, hfz67_2, hfz67_3⟩ := c4 BKz3.out; have hnb68 := NBz5.out; have hnc68 := NBz6.out; have hnb69 := NBz7.out; have hnc69 := NBz8.out; obtain ⟨hcz70_0, hcz70_1, hcz70_2, -⟩ := c4 BKz0.out; have hcz70_3 : w63.cell? ⟨gbz0, 3, none⟩ = some (.slice A0_3 l0_3.length c0_3) := (blk_cell BKz0.out 3).trans rfl) | ((with_reducible refine gate_callee (f := 106) rfl ?_); refine goesL_ (some 38) rfl rfl Try.func106 (by kernel_rfl) rfl #[.agg #[.int .i64 a0_0, .int .i64 a0_1, .int .i64 a0_2, .slice A0_3 l0_3.length c0_3], .agg #[.int .i64 ((rd_T47 l2 x32_2).f0), .int .i64 ((rd_T47 l2 x32_2).f1), .int .i64 ((rd_T47 l2 x32_2).f2), .int .i64 ((rd_T47 l2 x32_2).f3)]] rfl (by (try simp only [bitvec_to_nat]); rfl) ?_; (with_reducible refine (impl_isBoxOn.calls a0_0 a0_1 a0_2 _ _ l0_3 ((rd_T47 l2 x32_2).f0) ((rd_T47 l2 x32_2).f1) ((rd_T47 l2 x32_2).f2) ((rd_T47 l2 x32_2).f3) false _ ?side1 ?side2 A52.out).mono ?_); (case side1 => exact Kd.C_below HR0_3.out (by repeat (with_reducible first | exact HB.out | refine below_set ?_ GEz0.out))); (case side2 => exact HC0_3.out); rintro e w71 ⟨rfl, hb⟩; refine ⟨_, rfl, ?_⟩; have n2_ := mk (blk_below (g := gbz2) (o := .cells #[.int .i64 xz2, .int .i64 xz1, .int .i64 xz0, .slice none 0 0] 27 (0, 0)) (by refine blk_far ?_ NBz0.out _; refine blk_far ?_ NBz0.out _; refine blk_far ?_ NBz0.out _; refine blk_far ?_ NBz0.out _; exact BKz1.out) hb); have n4_ := mk (below_step (by repeat (with_reducible first | exact HB.out | refine below_set ?_ GEz0.out)) hb); clear BKz0; clear BKz2; clear BKz1; clear BKz3; clear HB; have BKz1 := n2_; have HB := n4_; (try clear hb); obtain ⟨hcz73_0, hcz73_1, hcz73_2, hcz73_3, hfz73_0, hfz73_1, hfz73_2, hfz73_3⟩ := c4 BKz1.out))
        refine bodyPost_ret (results_ct rfl _ _ gbz2 27 #[.int .i64 0, .int .i64 0, .int .i64 0, .slice none 0 0] (0, 0) _ rfl (by refine blk_put (cs := #[.int .i64 0, .int .i64 0, .int .i64 0, .slice none 0 0]) ?_ 3 _ rfl; refine blk_put (cs := #[.int .i64 0, .int .i64 0, .int .i64 xz0, .slice none 0 0]) ?_ 2 _ rfl; refine blk_put (cs := #[.int .i64 0, .int .i64 xz1, .int .i64 xz0, .slice none 0 0]) ?_ 1 _ rfl; refine blk_put (cs := #[.int .i64 xz2, .int .i64 xz1, .int .i64 xz0, .slice none 0 0]) ?_ 0 _ rfl; exact BKz1.out) Try.underlying27 rfl (by kernel_rfl)) rfl ?_
        exact ⟨_, by rfl, by exact Kd.R_nil _ _ _ _ _, by repeat (with_reducible first | exact HB.out | refine below_set ?_ GEz1.out)⟩
       rw [if_neg c51] at H
       exact absurd H (by simp)
      rw [if_neg c50] at H
      exact absurd H (by simp)
     rw [if_neg c49] at H
     have c49b0 : decide (x32_2 < (l2.length : Int)) = false := decide_eq_false c49
     clear c49
     replace H := Option.bind_eq_some_iff.mp H
     obtain ⟨⟨tz2, tz4, tz5, tz7⟩, A740, H⟩ := H
     replace H : (some (tz2, tz4, tz5, tz7, true)) = some (r1, r2, r3, r4, r5) := H
     have A74 := mk A740
     clear A740
     simp only [Option.some.injEq, Prod.mk.injEq] at H
     obtain ⟨rfl, rfl, rfl, rfl, rfl⟩ := H
     obtain ⟨hcz77_0, hcz77_1, hcz77_2, hcz77_3, -⟩ := c4 BKz0.out
     obtain ⟨hcz79_0, hcz79_1, hcz79_2, hcz79_3, -⟩ := c4 BKz2.out
     go_wp2_with (first | ((with_reducible refine gate_callee (f := 125) rfl ?_); refine goesL_ (some 45) rfl rfl Try.func125 (by kernel_rfl) rfl #[.agg #[.int .i64 a0_0, .int .i64 a0_1, .int .i64 a0_2, .slice A0_3 l0_3.length c0_3], .agg #[.int .i64 a1_0, .int .i64 a1_1, .int .i64 a1_2, .slice A1_3 l1_3.length c1_3], .slice A2 l2.length c2] rfl (by (try simp only [bitvec_to_nat]); rfl) ?_; (with_reducible refine (impl_patched.calls a0_0 a0_1 a0_2 _ _ l0_3 a1_0 a1_1 a1_2 _ _ l1_3 _ _ l2 tz2 tz4 tz5 tz7 _ ?side1 ?side2 ?side3 ?side4 ?side5 ?side6 A74.out).mono ?_); (case side1 => repeat (exact (Kd.C_below HR0_3.out HB.out))); (case side2 => exact HC0_3.out); (case side3 => repeat (exact (Kd.C_below HR1_3.out HB.out))); (case side4 => exact HC1_3.out); (case side5 => repeat (exact (Kd.C_below HR2.out HB.out))); (case side6 => exact HC2.out); rintro e w80 ⟨vz0, rfl, ho0, hb⟩; refine ⟨_, rfl, ?_⟩; have n0_ := mk (Kd.R_lower ho0 (below_size HB.out)); have n3_ := mk (blk_below BKz1.out hb); have n4_ := mk (below_step HB.out hb); clear BKz0; clear BKz2; clear BKz1; clear HB; have HOz0 := n0_; have BKz1 := n3_; have HB := n4_; (try clear hb); (try clear ho0); obtain ⟨hcz81_0, hcz81_1, hcz81_2, hcz81_3, hfz81_0, hfz81_1, hfz81_2, hfz81_3⟩ := c4 BKz1.out; obtain ⟨Ao82, co82, eo82⟩ := Kd.R_slice HOz0.out; subst eo82))
     refine bodyPost_ret (results_ct rfl _ _ gbz2 27 #[.int .i64 tz2, .int .i64 tz4, .int .i64 tz5, .slice Ao82 tz7.length co82] (0, 0) _ rfl (by refine blk_put (cs := #[.int .i64 tz2, .int .i64 tz4, .int .i64 tz5, .slice none 0 0]) ?_ 3 _ rfl; refine blk_put (cs := #[.int .i64 tz2, .int .i64 tz4, .int .i64 xz0, .slice none 0 0]) ?_ 2 _ rfl; refine blk_put (cs := #[.int .i64 tz2, .int .i64 xz1, .int .i64 xz0, .slice none 0 0]) ?_ 1 _ rfl; refine blk_put (cs := #[.int .i64 xz2, .int .i64 xz1, .int .i64 xz0, .slice none 0 0]) ?_ 0 _ rfl; exact BKz1.out) Try.underlying27 rfl (by kernel_rfl)) rfl ?_
     exact ⟨_, by rfl, by exact Kd.R_mono (Kd.R_far (p := ⟨gbz2, 3, none⟩) (Kd.R_far (p := ⟨gbz2, 2, none⟩) (Kd.R_far (p := ⟨gbz2, 1, none⟩) (Kd.R_far (p := ⟨gbz2, 0, none⟩) (Kd.R_types HOz0.out BKz1.out (by decide)) (fun _ hk => hk.2) (.int .i64 tz2)) (fun _ hk => hk.2) (.int .i64 tz4)) (fun _ hk => hk.2) (.int .i64 tz5)) (fun _ hk => hk.2) (.slice Ao82 tz7.length co82)) (fun _ hk => trivial), by repeat (with_reducible first | exact HB.out | refine below_set ?_ GEz1.out)⟩


noncomputable def laws_FnPatchImageTwice.j0 : Nat → List S47 → Bool → Bool → Bool → Int → Int → Int → List Int → Int → Int → Int → List Int → Int → Int → Int → List Int → Int → Int → Int → List Int → Option (Bool)
 | 0, _, _, _, _, _, _, _, _, _, _, _, _, _, _, _, _, _, _, _, _ => none
 | k + 1, x5, x7, x9, x47, xz8, xz9, xz10, xz11, xz4, xz5, xz6, xz7, xz0, xz1, xz2, xz3, xz12, xz13, xz14, xz15 => if x47 = true then ((laws_equalImage.f k xz0 xz1 xz2 xz3 xz12 xz13 xz14 xz15).bind fun tz27 => (if tz27 = true then (some (x7 == x9)) else (some false))) else ((impl_PatchImage.f k xz0 xz1 xz2 xz3 xz4 xz5 xz6 xz7 x5).bind fun btz3 => (if btz3.2.2.2.2 = true then ((laws_equalImage.f k btz3.1 btz3.2.1 btz3.2.2.1 btz3.2.2.2.1 xz0 xz1 xz2 xz3).bind fun tz26 => (if tz26 = true then ((impl_GapOf.f k xz0 xz1 xz2 xz3 xz4 xz5 xz6 xz7).bind fun tz24 => ((impl_GapOf.f k xz8 xz9 xz10 xz11 xz4 xz5 xz6 xz7).bind fun tz23 => (some (decide (tz24 ≤ tz23))))) else (some false))) else (some false)))
noncomputable def laws_FnPatchImageTwice.f (k : Nat) (l0 : List Int) : Option Bool := if (l0.length : Int) > 1048576 then (some true) else ((spec_DrawPatchImage.f k l0).bind fun btz0 => ((impl_PatchImage.f k btz0.1 btz0.2.1 btz0.2.2.1 btz0.2.2.2.1 btz0.2.2.2.2.1 btz0.2.2.2.2.2.1 btz0.2.2.2.2.2.2.1 btz0.2.2.2.2.2.2.2.1 btz0.2.2.2.2.2.2.2.2).bind fun btz2 => ((spec_PatchImage.f k btz0.1 btz0.2.1 btz0.2.2.1 btz0.2.2.2.1 btz0.2.2.2.2.1 btz0.2.2.2.2.2.1 btz0.2.2.2.2.2.2.1 btz0.2.2.2.2.2.2.2.1 btz0.2.2.2.2.2.2.2.2).bind fun btz1 => ((laws_equalImage.f k btz2.1 btz2.2.1 btz2.2.2.1 btz2.2.2.2.1 btz1.1 btz1.2.1 btz1.2.2.1 btz1.2.2.2.1).bind fun tz25 => (if tz25 = true then (if (btz2.2.2.2.2 != btz1.2.2.2.2) = true then (laws_FnPatchImageTwice.j0 k btz0.2.2.2.2.2.2.2.2 btz2.2.2.2.2 btz1.2.2.2.2 true btz0.1 btz0.2.1 btz0.2.2.1 btz0.2.2.2.1 btz0.2.2.2.2.1 btz0.2.2.2.2.2.1 btz0.2.2.2.2.2.2.1 btz0.2.2.2.2.2.2.2.1 btz2.1 btz2.2.1 btz2.2.2.1 btz2.2.2.2.1 btz1.1 btz1.2.1 btz1.2.2.1 btz1.2.2.2.1) else (laws_FnPatchImageTwice.j0 k btz0.2.2.2.2.2.2.2.2 btz2.2.2.2.2 btz1.2.2.2.2 (!btz2.2.2.2.2) btz0.1 btz0.2.1 btz0.2.2.1 btz0.2.2.2.1 btz0.2.2.2.2.1 btz0.2.2.2.2.2.1 btz0.2.2.2.2.2.2.1 btz0.2.2.2.2.2.2.2.1 btz2.1 btz2.2.1 btz2.2.2.1 btz2.2.2.2.1 btz1.1 btz1.2.1 btz1.2.2.1 btz1.2.2.2.1)) else (laws_FnPatchImageTwice.j0 k btz0.2.2.2.2.2.2.2.2 btz2.2.2.2.2 btz1.2.2.2.2 true btz0.1 btz0.2.1 btz0.2.2.1 btz0.2.2.2.1 btz0.2.2.2.2.1 btz0.2.2.2.2.2.1 btz0.2.2.2.2.2.2.1 btz0.2.2.2.2.2.2.2.1 btz2.1 btz2.2.1 btz2.2.2.1 btz2.2.2.2.1 btz1.1 btz1.2.1 btz1.2.2.1 btz1.2.2.2.1))))))
noncomputable def laws_FnPatchImageTwice.T9 : Bool × List (List Nat × List Nat) := (true, [([], []), ([0], [0]), ([1], [1]), ([1], [1]), ([2, 3, 1, 1], [1, 2, 3]), ([1, 4], [1, 4]), ([5, 4], [5]), ([6], [6]), ([6], [6]), ([7, 8, 6, 6], [6, 7, 8]), ([6], [6]), ([6], [6]), ([10, 11, 9, 6], [6, 10, 11]), ([9, 12, 6], [6, 9, 12]), ([6, 13], [6, 13]), ([14, 12, 0, 1, 2, 3, 4, 5, 6, 7, 8, 9, 10, 11, 12, 13, 14], [14])])
noncomputable def laws_FnPatchImageTwice.B9 : List Nat := [0, 1, 3, 3, 15, 31, 63, 127, 127, 511, 127, 127, 4095, 8191, 16383, 32767]
theorem laws_FnPatchImageTwice.tab9 : rtab .any (opsOf Try.f16 9) = laws_FnPatchImageTwice.T9 := by kernel_rfl
theorem laws_FnPatchImageTwice.bits9 : waitsOk laws_FnPatchImageTwice.T9.2 laws_FnPatchImageTwice.B9 = true := by kernel_rfl
theorem laws_FnPatchImageTwice.calls (k : Nat) (A0 : Option Addr) (c0 : Nat) (l0 : List Int) (r : Bool) (w : World) (hr0 : Kd.C (Kd.int .u8) w A0 l0.length l0) (hc0 : l0.length ≤ c0) (h : laws_FnPatchImageTwice.f k l0 = some r) (hrt : r = true) :
  Calls Try.prog 16 #[.slice A0 l0.length c0] w fun e w' => e = .returned (.bool r) ∧ Below w.heap.size w w' := by
 have HRT := mk hrt
 clear hrt
 have hu27 := Try.underlying27
 have HR0 := mk hr0
 have HC0 := mk hc0
 clear hr0 hc0
 have HB := mk (Below.refl w.heap.size w)
 have H : (if (l0.length : Int) > 1048576 then (some true) else ((spec_DrawPatchImage.f k l0).bind fun btz0 => ((impl_PatchImage.f k btz0.1 btz0.2.1 btz0.2.2.1 btz0.2.2.2.1 btz0.2.2.2.2.1 btz0.2.2.2.2.2.1 btz0.2.2.2.2.2.2.1 btz0.2.2.2.2.2.2.2.1 btz0.2.2.2.2.2.2.2.2).bind fun btz2 => ((spec_PatchImage.f k btz0.1 btz0.2.1 btz0.2.2.1 btz0.2.2.2.1 btz0.2.2.2.2.1 btz0.2.2.2.2.2.1 btz0.2.2.2.2.2.2.1 btz0.2.2.2.2.2.2.2.1 btz0.2.2.2.2.2.2.2.2).bind fun btz1 => ((laws_equalImage.f k btz2.1 btz2.2.1 btz2.2.2.1 btz2.2.2.2.1 btz1.1 btz1.2.1 btz1.2.2.1 btz1.2.2.2.1).bind fun tz25 => (if tz25 = true then (if (btz2.2.2.2.2 != btz1.2.2.2.2) = true then (laws_FnPatchImageTwice.j0 k btz0.2.2.2.2.2.2.2.2 btz2.2.2.2.2 btz1.2.2.2.2 true btz0.1 btz0.2.1 btz0.2.2.1 btz0.2.2.2.1 btz0.2.2.2.2.1 btz0.2.2.2.2.2.1 btz0.2.2.2.2.2.2.1 btz0.2.2.2.2.2.2.2.1 btz2.1 btz2.2.1 btz2.2.2.1 btz2.2.2.2.1 btz1.1 btz1.2.1 btz1.2.2.1 btz1.2.2.2.1) else (laws_FnPatchImageTwice.j0 k btz0.2.2.2.2.2.2.2.2 btz2.2.2.2.2 btz1.2.2.2.2 (!btz2.2.2.2.2) btz0.1 btz0.2.1 btz0.2.2.1 btz0.2.2.2.1 btz0.2.2.2.2.1 btz0.2.2.2.2.2.1 btz0.2.2.2.2.2.2.1 btz0.2.2.2.2.2.2.2.1 btz2.1 btz2.2.1 btz2.2.2.1 btz2.2.2.2.1 btz1.1 btz1.2.1 btz1.2.2.1 btz1.2.2.2.1)) else (laws_FnPatchImageTwice.j0 k btz0.2.2.2.2.2.2.2.2 btz2.2.2.2.2 btz1.2.2.2.2 true btz0.1 btz0.2.1 btz0.2.2.1 btz0.2.2.2.1 btz0.2.2.2.2.1 btz0.2.2.2.2.2.1 btz0.2.2.2.2.2.2.1 btz0.2.2.2.2.2.2.2.1 btz2.1 btz2.2.1 btz2.2.2.1 btz2.2.2.2.1 btz1.1 btz1.2.1 btz1.2.2.1 btz1.2.2.2.1))))))) = some r := h
 clear h
 by_cases c2 : (l0.length : Int) > 1048576
 ·rw [if_pos c2] at H
  have c2b0 : decide (1048576 < (l0.length : Int)) = true := decide_eq_true c2
  have c2b1 : decide (1048576 < l0.length) = true := decide_eq_true (by omega)
  clear c2
  obtain rfl := Option.some.inj H
  go_enter Try.func16, Try.ntmps16
  go_wp2
  go_ret
  exact ⟨by rfl, by exact HB.out⟩
 rw [if_neg c2] at H
 have c2b0 : decide (1048576 < (l0.length : Int)) = false := decide_eq_false c2
 have c2b1 : decide (1048576 < l0.length) = false := decide_eq_false (by omega)
 clear c2
 replace H := Option.bind_eq_some_iff.mp H
 obtain ⟨⟨tz12, tz13, tz15, tz2, tz6, tz8, tz9, tz0, tz17⟩, A30, H⟩ := H
 replace H : ((impl_PatchImage.f k tz12 tz13 tz15 tz2 tz6 tz8 tz9 tz0 tz17).bind fun btz2 => ((spec_PatchImage.f k tz12 tz13 tz15 tz2 tz6 tz8 tz9 tz0 tz17).bind fun btz1 => ((laws_equalImage.f k btz2.1 btz2.2.1 btz2.2.2.1 btz2.2.2.2.1 btz1.1 btz1.2.1 btz1.2.2.1 btz1.2.2.2.1).bind fun tz25 => (if tz25 = true then (if (btz2.2.2.2.2 != btz1.2.2.2.2) = true then (laws_FnPatchImageTwice.j0 k tz17 btz2.2.2.2.2 btz1.2.2.2.2 true tz12 tz13 tz15 tz2 tz6 tz8 tz9 tz0 btz2.1 btz2.2.1 btz2.2.2.1 btz2.2.2.2.1 btz1.1 btz1.2.1 btz1.2.2.1 btz1.2.2.2.1) else (laws_FnPatchImageTwice.j0 k tz17 btz2.2.2.2.2 btz1.2.2.2.2 (!btz2.2.2.2.2) tz12 tz13 tz15 tz2 tz6 tz8 tz9 tz0 btz2.1 btz2.2.1 btz2.2.2.1 btz2.2.2.2.1 btz1.1 btz1.2.1 btz1.2.2.1 btz1.2.2.2.1)) else (laws_FnPatchImageTwice.j0 k tz17 btz2.2.2.2.2 btz1.2.2.2.2 true tz12 tz13 tz15 tz2 tz6 tz8 tz9 tz0 btz2.1 btz2.2.1 btz2.2.2.1 btz2.2.2.2.1 btz1.1 btz1.2.1 btz1.2.2.1 btz1.2.2.2.1))))) = some r := H
 have A3 := mk A30
 clear A30
 replace H := Option.bind_eq_some_iff.mp H
 obtain ⟨⟨tz3, tz5, tz7, tz1, tz16⟩, A40, H⟩ := H
 replace H : ((spec_PatchImage.f k tz12 tz13 tz15 tz2 tz6 tz8 tz9 tz0 tz17).bind fun btz1 => ((laws_equalImage.f k tz3 tz5 tz7 tz1 btz1.1 btz1.2.1 btz1.2.2.1 btz1.2.2.2.1).bind fun tz25 => (if tz25 = true then (if (tz16 != btz1.2.2.2.2) = true then (laws_FnPatchImageTwice.j0 k tz17 tz16 btz1.2.2.2.2 true tz12 tz13 tz15 tz2 tz6 tz8 tz9 tz0 tz3 tz5 tz7 tz1 btz1.1 btz1.2.1 btz1.2.2.1 btz1.2.2.2.1) else (laws_FnPatchImageTwice.j0 k tz17 tz16 btz1.2.2.2.2 (!tz16) tz12 tz13 tz15 tz2 tz6 tz8 tz9 tz0 tz3 tz5 tz7 tz1 btz1.1 btz1.2.1 btz1.2.2.1 btz1.2.2.2.1)) else (laws_FnPatchImageTwice.j0 k tz17 tz16 btz1.2.2.2.2 true tz12 tz13 tz15 tz2 tz6 tz8 tz9 tz0 tz3 tz5 tz7 tz1 btz1.1 btz1.2.1 btz1.2.2.1 btz1.2.2.2.1)))) = some r := H
 have A4 := mk A40
 clear A40
 replace H := Option.bind_eq_some_iff.mp H
 obtain ⟨⟨tz10, tz11, tz14, tz4, tz22⟩, A50, H⟩ := H
 replace H : ((laws_equalImage.f k tz3 tz5 tz7 tz1 tz10 tz11 tz14 tz4).bind fun tz25 => (if tz25 = true then (if (tz16 != tz22) = true then (laws_FnPatchImageTwice.j0 k tz17 tz16 tz22 true tz12 tz13 tz15 tz2 tz6 tz8 tz9 tz0 tz3 tz5 tz7 tz1 tz10 tz11 tz14 tz4) else (laws_FnPatchImageTwice.j0 k tz17 tz16 tz22 (!tz16) tz12 tz13 tz15 tz2 tz6 tz8 tz9 tz0 tz3 tz5 tz7 tz1 tz10 tz11 tz14 tz4)) else (laws_FnPatchImageTwice.j0 k tz17 tz16 tz22 true tz12 tz13 tz15 tz2 tz6 tz8 tz9 tz0 tz3 tz5 tz7 tz1 tz10 tz11 tz14 tz4))) = some r := H
 have A5 := mk A50
 clear A50
 have HC6 := mk H
 clear H
 go_enter Try.func16, Try.ntmps16
 go_upto_region 6 with (first | ((with_reducible refine gate_callee (f := 75) rfl ?_); refine goesL_ (some 17) rfl rfl Try.func75 (by kernel_rfl) rfl #[.slice A0 l0.length c0] rfl (by (try simp only [bitvec_to_nat]); rfl) ?_; (with_reducible refine (spec_DrawPatchImage.calls k _ _ l0 tz12 tz13 tz15 tz2 tz6 tz8 tz9 tz0 tz17 _ ?side1 ?side2 A3.out).mono ?_); (case side1 => repeat (exact HR0.out)); (case side2 => exact HC0.out); rintro e w7 ⟨vz0, vz1, vz2, rfl, ho0, ho1, ho2, hb⟩; refine ⟨_, rfl, ?_⟩; have HOz4 := mk (Kd.Q_lower ho0 (below_size HB.out)); have HOz5 := mk (Kd.Q_lower ho1 (below_size HB.out)); have HOz6 := mk (Kd.R_lower ho2 (below_size HB.out)); replace HB := mk (below_step HB.out hb); (try clear hb); (try clear ho0); (try clear ho1); (try clear ho2)) | ((with_reducible refine gate_dst (N := 3) rfl ?_); refine box_event (by rfl) (N := 3) (by rfl) (cs := #[.int .i64 0, .int .i64 0, .int .i64 0, .slice none 0 0]) (t := 27) (by go_simp; done) ?_; intro gbz4 hg w8 hbox hb; replace HOz4 := mk (Kd.Q_below HOz4.out hb); replace HOz5 := mk (Kd.Q_below HOz5.out hb); replace HOz6 := mk (Kd.R_below HOz6.out hb); have BKz2 := mk (hbox); have GEz1 := mk ((by rw [hg]; exact (below_size HB.out) : w.heap.size ≤ gbz4)); replace HB := mk (below_step HB.out hb); clear hb hbox hg) | ((with_reducible refine gate_dst (N := 4) rfl ?_); refine box_event (by rfl) (N := 4) (by rfl) (cs := #[.int .i64 0, .int .i64 0, .int .i64 0, .slice none 0 0]) (t := 27) (by go_simp; done) ?_; intro gbz3 hg w9 hbox hb; replace HOz4 := mk (Kd.Q_below HOz4.out hb); replace HOz5 := mk (Kd.Q_below HOz5.out hb); replace HOz6 := mk (Kd.R_below HOz6.out hb); have BKz1 := mk (hbox); have GEz2 := mk ((by rw [hg]; exact (below_size HB.out) : w.heap.size ≤ gbz3)); replace HB := mk (below_step HB.out hb); have NBz6 := mk ((by rw [hg]; exact Nat.ne_of_lt (blk_lt BKz2.out) : gbz4 ≠ gbz3)); have NBz3 := mk ((by rw [hg]; exact Nat.ne_of_gt (blk_lt BKz2.out) : gbz3 ≠ gbz4)); replace BKz2 := mk (blk_below BKz2.out hb); clear hb hbox hg; have hnc10 := NBz3.out; obtain ⟨hcz11_0, hcz11_1, hcz11_2, hcz11_3, hfz11_0, hfz11_1, hfz11_2, hfz11_3⟩ := c4 BKz2.out; obtain ⟨Ao12, co12, eo12, _⟩ := Kd.Q_slice HOz4.out; subst eo12; obtain ⟨hcz13_0, hcz13_1, hcz13_2, hcz13_3, hfz13_0, hfz13_1, hfz13_2, hfz13_3⟩ := c4 BKz1.out; obtain ⟨Ao14, co14, eo14, _⟩ := Kd.Q_slice HOz5.out; subst eo14; obtain ⟨Ao15, co15, eo15⟩ := Kd.R_slice HOz6.out; subst eo15) | ((with_reducible refine gate_callee (f := 74) rfl ?_); refine goesL_ (some 25) rfl rfl Try.func74 (by kernel_rfl) rfl #[.agg #[.int .i64 tz12, .int .i64 tz13, .int .i64 tz15, .slice Ao12 tz2.length co12], .agg #[.int .i64 tz6, .int .i64 tz8, .int .i64 tz9, .slice Ao14 tz0.length co14], .slice Ao15 tz17.length co15] rfl (by (try simp only [bitvec_to_nat]); rfl) ?_; (with_reducible refine (impl_PatchImage.calls k tz12 tz13 tz15 _ _ tz2 tz6 tz8 tz9 _ _ tz0 _ _ tz17 tz3 tz5 tz7 tz1 tz16 _ ?side1 ?side2 ?side3 ?side4 ?side5 ?side6 A4.out).mono ?_); (case side1 => refine (Kd.Q_reads' (e := 3) (base := w.heap.size) (ok := fun k_ => some k_ ≠ (.slice Ao14 tz0.length co14 : Value).ownBlock) (n := tz2.length) (c := co12) ?_).2.2; exact (by exact (Kd.Q_mono (Kd.Q_mono (Kd.Q_far (p := ⟨gbz3, 3, none⟩) (Kd.Q_far (p := ⟨gbz3, 2, none⟩) (Kd.Q_far (p := ⟨gbz3, 1, none⟩) (Kd.Q_far (p := ⟨gbz3, 0, none⟩) (Kd.Q_far (p := ⟨gbz4, 3, none⟩) (Kd.Q_far (p := ⟨gbz4, 2, none⟩) (Kd.Q_far (p := ⟨gbz4, 1, none⟩) (Kd.Q_far (p := ⟨gbz4, 0, none⟩) (Kd.Q_types (Kd.Q_types HOz4.out BKz2.out (by decide)) BKz1.out (by decide)) (fun _ hk => hk.1.2) (.int .i64 tz12)) (fun _ hk => hk.1.2) (.int .i64 tz13)) (fun _ hk => hk.1.2) (.int .i64 tz15)) (fun _ hk => hk.1.2) (.slice Ao12 tz2.length co12)) (fun _ hk => hk.2) (.int .i64 tz6)) (fun _ hk => hk.2) (.int .i64 tz8)) (fun _ hk => hk.2) (.int .i64 tz9)) (fun _ hk => hk.2) (.slice Ao14 tz0.length co14)) (fun _ h_ => h_.1)) (fun _ h_ => h_.1)))); (case side2 => exact (Kd.Q_reads' HOz4.out).2.1); (case side3 => refine (Kd.Q_reads' (e := 3) (base := w.heap.size) (ok := fun k_ => some k_ ≠ (.slice Ao12 tz2.length co12 : Value).ownBlock) (n := tz0.length) (c := co14) ?_).2.2; exact (by exact (Kd.Q_mono (Kd.Q_mono (Kd.Q_far (p := ⟨gbz3, 3, none⟩) (Kd.Q_far (p := ⟨gbz3, 2, none⟩) (Kd.Q_far (p := ⟨gbz3, 1, none⟩) (Kd.Q_far (p := ⟨gbz3, 0, none⟩) (Kd.Q_far (p := ⟨gbz4, 3, none⟩) (Kd.Q_far (p := ⟨gbz4, 2, none⟩) (Kd.Q_far (p := ⟨gbz4, 1, none⟩) (Kd.Q_far (p := ⟨gbz4, 0, none⟩) (Kd.Q_types (Kd.Q_types HOz5.out BKz2.out (by decide)) BKz1.out (by decide)) (fun _ hk => hk.1.2) (.int .i64 tz12)) (fun _ hk => hk.1.2) (.int .i64 tz13)) (fun _ hk => hk.1.2) (.int .i64 tz15)) (fun _ hk => hk.1.2) (.slice Ao12 tz2.length co12)) (fun _ hk => hk.2) (.int .i64 tz6)) (fun _ hk => hk.2) (.int .i64 tz8)) (fun _ hk => hk.2) (.int .i64 tz9)) (fun _ hk => hk.2) (.slice Ao14 tz0.length co14)) (fun _ h_ => h_.1)) (fun _ h_ => h_.1)))); (case side4 => exact (Kd.Q_reads' HOz5.out).2.1); (case side5 => refine (Kd.R_reads' (e := 47) (base := w.heap.size) (ok := fun k_ => True) (n := tz17.length) (c := co15) ?_).2.2; exact (by exact (Kd.R_mono (Kd.R_mono (Kd.R_far (p := ⟨gbz3, 3, none⟩) (Kd.R_far (p := ⟨gbz3, 2, none⟩) (Kd.R_far (p := ⟨gbz3, 1, none⟩) (Kd.R_far (p := ⟨gbz3, 0, none⟩) (Kd.R_far (p := ⟨gbz4, 3, none⟩) (Kd.R_far (p := ⟨gbz4, 2, none⟩) (Kd.R_far (p := ⟨gbz4, 1, none⟩) (Kd.R_far (p := ⟨gbz4, 0, none⟩) (Kd.R_types (Kd.R_types HOz6.out BKz2.out (by decide)) BKz1.out (by decide)) (fun _ hk => hk.1.2) (.int .i64 tz12)) (fun _ hk => hk.1.2) (.int .i64 tz13)) (fun _ hk => hk.1.2) (.int .i64 tz15)) (fun _ hk => hk.1.2) (.slice Ao12 tz2.length co12)) (fun _ hk => hk.2) (.int .i64 tz6)) (fun _ hk => hk.2) (.int .i64 tz8)) (fun _ hk => hk.2) (.int .i64 tz9)) (fun _ hk => hk.2) (.slice Ao14 tz0.length co14)) (fun _ h_ => h_.1)) (fun _ h_ => h_.1)))); (case side6 => exact (Kd.R_reads' HOz6.out).2.1); rintro e w16 ⟨vz3, rfl, ho0, hb⟩; refine ⟨_, rfl, ?_⟩; replace HOz6 := mk (Kd.R_below (by exact (Kd.R_mono (Kd.R_mono (Kd.R_far (p := ⟨gbz3, 3, none⟩) (Kd.R_far (p := ⟨gbz3, 2, none⟩) (Kd.R_far (p := ⟨gbz3, 1, none⟩) (Kd.R_far (p := ⟨gbz3, 0, none⟩) (Kd.R_far (p := ⟨gbz4, 3, none⟩) (Kd.R_far (p := ⟨gbz4, 2, none⟩) (Kd.R_far (p := ⟨gbz4, 1, none⟩) (Kd.R_far (p := ⟨gbz4, 0, none⟩) (Kd.R_types (Kd.R_types HOz6.out BKz2.out (by decide)) BKz1.out (by decide)) (fun _ hk => hk.1.2) (.int .i64 tz12)) (fun _ hk => hk.1.2) (.int .i64 tz13)) (fun _ hk => hk.1.2) (.int .i64 tz15)) (fun _ hk => hk.1.2) (.slice Ao12 tz2.length co12)) (fun _ hk => hk.2) (.int .i64 tz6)) (fun _ hk => hk.2) (.int .i64 tz8)) (fun _ hk => hk.2) (.int .i64 tz9)) (fun _ hk => hk.2) (.slice Ao14 tz0.length co14)) (fun _ h_ => h_.1)) (fun _ h_ => h_.1))) hb); have HOz7 := mk (Kd.R_lower (Kd.R_new' (Kd.R_new' ho0 (Kd.Q_lt (by exact (Kd.Q_mono (Kd.Q_mono (Kd.Q_far (p := ⟨gbz3, 3, none⟩) (Kd.Q_far (p := ⟨gbz3, 2, none⟩) (Kd.Q_far (p := ⟨gbz3, 1, none⟩) (Kd.Q_far (p := ⟨gbz3, 0, none⟩) (Kd.Q_far (p := ⟨gbz4, 3, none⟩) (Kd.Q_far (p := ⟨gbz4, 2, none⟩) (Kd.Q_far (p := ⟨gbz4, 1, none⟩) (Kd.Q_far (p := ⟨gbz4, 0, none⟩) (Kd.Q_types (Kd.Q_types HOz4.out BKz2.out (by decide)) BKz1.out (by decide)) (fun _ hk => hk.1.2) (.int .i64 tz12)) (fun _ hk => hk.1.2) (.int .i64 tz13)) (fun _ hk => hk.1.2) (.int .i64 tz15)) (fun _ hk => hk.1.2) (.slice Ao12 tz2.length co12)) (fun _ hk => hk.2) (.int .i64 tz6)) (fun _ hk => hk.2) (.int .i64 tz8)) (fun _ hk => hk.2) (.int .i64 tz9)) (fun _ hk => hk.2) (.slice Ao14 tz0.length co14)) (fun _ h_ => h_.1)) (fun _ h_ => h_.1))))) (Kd.Q_lt (by exact (Kd.Q_mono (Kd.Q_mono (Kd.Q_far (p := ⟨gbz3, 3, none⟩) (Kd.Q_far (p := ⟨gbz3, 2, none⟩) (Kd.Q_far (p := ⟨gbz3, 1, none⟩) (Kd.Q_far (p := ⟨gbz3, 0, none⟩) (Kd.Q_far (p := ⟨gbz4, 3, none⟩) (Kd.Q_far (p := ⟨gbz4, 2, none⟩) (Kd.Q_far (p := ⟨gbz4, 1, none⟩) (Kd.Q_far (p := ⟨gbz4, 0, none⟩) (Kd.Q_types (Kd.Q_types HOz5.out BKz2.out (by decide)) BKz1.out (by decide)) (fun _ hk => hk.1.2) (.int .i64 tz12)) (fun _ hk => hk.1.2) (.int .i64 tz13)) (fun _ hk => hk.1.2) (.int .i64 tz15)) (fun _ hk => hk.1.2) (.slice Ao12 tz2.length co12)) (fun _ hk => hk.2) (.int .i64 tz6)) (fun _ hk => hk.2) (.int .i64 tz8)) (fun _ hk => hk.2) (.int .i64 tz9)) (fun _ hk => hk.2) (.slice Ao14 tz0.length co14)) (fun _ h_ => h_.1)) (fun _ h_ => h_.1))))) (below_size (by repeat (with_reducible first | exact HB.out | refine below_set ?_ GEz1.out | refine below_set ?_ GEz2.out)))); replace HOz4 := mk (Kd.Q_elder' (by exact (Kd.Q_mono (Kd.Q_mono (Kd.Q_far (p := ⟨gbz3, 3, none⟩) (Kd.Q_far (p := ⟨gbz3, 2, none⟩) (Kd.Q_far (p := ⟨gbz3, 1, none⟩) (Kd.Q_far (p := ⟨gbz3, 0, none⟩) (Kd.Q_far (p := ⟨gbz4, 3, none⟩) (Kd.Q_far (p := ⟨gbz4, 2, none⟩) (Kd.Q_far (p := ⟨gbz4, 1, none⟩) (Kd.Q_far (p := ⟨gbz4, 0, none⟩) (Kd.Q_types (Kd.Q_types HOz4.out BKz2.out (by decide)) BKz1.out (by decide)) (fun _ hk => hk.1.2) (.int .i64 tz12)) (fun _ hk => hk.1.2) (.int .i64 tz13)) (fun _ hk => hk.1.2) (.int .i64 tz15)) (fun _ hk => hk.1.2) (.slice Ao12 tz2.length co12)) (fun _ hk => hk.2) (.int .i64 tz6)) (fun _ hk => hk.2) (.int .i64 tz8)) (fun _ hk => hk.2) (.int .i64 tz9)) (fun _ hk => hk.2) (.slice Ao14 tz0.length co14)) (fun _ h_ => h_.1)) (fun _ h_ => h_.1))) (Kd.R_base ho0) hb); replace HOz5 := mk (Kd.Q_elder' (by exact (Kd.Q_mono (Kd.Q_mono (Kd.Q_far (p := ⟨gbz3, 3, none⟩) (Kd.Q_far (p := ⟨gbz3, 2, none⟩) (Kd.Q_far (p := ⟨gbz3, 1, none⟩) (Kd.Q_far (p := ⟨gbz3, 0, none⟩) (Kd.Q_far (p := ⟨gbz4, 3, none⟩) (Kd.Q_far (p := ⟨gbz4, 2, none⟩) (Kd.Q_far (p := ⟨gbz4, 1, none⟩) (Kd.Q_far (p := ⟨gbz4, 0, none⟩) (Kd.Q_types (Kd.Q_types HOz5.out BKz2.out (by decide)) BKz1.out (by decide)) (fun _ hk => hk.1.2) (.int .i64 tz12)) (fun _ hk => hk.1.2) (.int .i64 tz13)) (fun _ hk => hk.1.2) (.int .i64 tz15)) (fun _ hk => hk.1.2) (.slice Ao12 tz2.length co12)) (fun _ hk => hk.2) (.int .i64 tz6)) (fun _ hk => hk.2) (.int .i64 tz8)) (fun _ hk => hk.2) (.int .i64 tz9)) (fun _ hk => hk.2) (.slice Ao14 tz0.length co14)) (fun _ h_ => h_.1)) (fun _ h_ => h_.1))) (Kd.R_base ho0) hb); replace BKz2 := mk (blk_below (g := gbz4) (o := .cells #[.int .i64 tz12, .int .i64 tz13, .int .i64 tz15, .slice Ao12 tz2.length co12] 27 (0, 0)) (by refine blk_far ?_ NBz6.out _; refine blk_far ?_ NBz6.out _; refine blk_far ?_ NBz6.out _; refine blk_far ?_ NBz6.out _; refine blk_put (cs := #[.int .i64 tz12, .int .i64 tz13, .int .i64 tz15, .slice none 0 0]) ?_ 3 _ rfl; refine blk_put (cs := #[.int .i64 tz12, .int .i64 tz13, .int .i64 0, .slice none 0 0]) ?_ 2 _ rfl; refine blk_put (cs := #[.int .i64 tz12, .int .i64 0, .int .i64 0, .slice none 0 0]) ?_ 1 _ rfl; refine blk_put (cs := #[.int .i64 0, .int .i64 0, .int .i64 0, .slice none 0 0]) ?_ 0 _ rfl; exact BKz2.out) hb); replace BKz1 := mk (blk_below (g := gbz3) (o := .cells #[.int .i64 tz6, .int .i64 tz8, .int .i64 tz9, .slice Ao14 tz0.length co14] 27 (0, 0)) (by refine blk_put (cs := #[.int .i64 tz6, .int .i64 tz8, .int .i64 tz9, .slice none 0 0]) ?_ 3 _ rfl; refine blk_put (cs := #[.int .i64 tz6, .int .i64 tz8, .int .i64 0, .slice none 0 0]) ?_ 2 _ rfl; refine blk_put (cs := #[.int .i64 tz6, .int .i64 0, .int .i64 0, .slice none 0 0]) ?_ 1 _ rfl; refine blk_put (cs := #[.int .i64 0, .int .i64 0, .int .i64 0, .slice none 0 0]) ?_ 0 _ rfl; refine blk_far ?_ NBz3.out _; refine blk_far ?_ NBz3.out _; refine blk_far ?_ NBz3.out _; refine blk_far ?_ NBz3.out _; exact BKz1.out) hb); replace HB := mk (below_step (by repeat (with_reducible first | exact HB.out | refine below_set ?_ GEz1.out | refine below_set ?_ GEz2.out)) hb); (try clear hb); (try clear ho0)) | ((with_reducible refine gate_dst (N := 6) rfl ?_); refine box_event (by rfl) (N := 6) (by rfl) (cs := #[.int .i64 0, .int .i64 0, .int .i64 0, .slice none 0 0]) (t := 27) (by go_simp; done) ?_; intro gbz2 hg w17 hbox hb; replace HOz4 := mk (Kd.Q_below HOz4.out hb); replace HOz5 := mk (Kd.Q_below HOz5.out hb); replace HOz6 := mk (Kd.R_below HOz6.out hb); replace HOz7 := mk (Kd.R_below HOz7.out hb); have BKz0 := mk (hbox); have GEz3 := mk ((by rw [hg]; exact (below_size HB.out) : w.heap.size ≤ gbz2)); replace HB := mk (below_step HB.out hb); have NBz4 := mk ((by rw [hg]; exact Nat.ne_of_lt (blk_lt BKz2.out) : gbz4 ≠ gbz2)); replace BKz2 := mk (blk_below BKz2.out hb); have NBz5 := mk ((by rw [hg]; exact Nat.ne_of_lt (blk_lt BKz1.out) : gbz3 ≠ gbz2)); have NBz14 := mk ((by rw [hg]; exact Nat.ne_of_gt (blk_lt BKz1.out) : gbz2 ≠ gbz3)); replace BKz1 := mk (blk_below BKz1.out hb); clear hb hbox hg; have hnc18 := NBz4.out; have hnb19 := NBz14.out; have hnc19 := NBz5.out; obtain ⟨hcz20_0, hcz20_1, hcz20_2, hcz20_3, hfz20_0, hfz20_1, hfz20_2, hfz20_3⟩ := c4 BKz0.out; obtain ⟨Ao21, co21, eo21⟩ := Kd.R_slice HOz7.out; subst eo21; obtain ⟨hcz22_0, hcz22_1, hcz22_2, hcz22_3, hfz22_0, hfz22_1, hfz22_2, hfz22_3⟩ := c4 BKz2.out; obtain ⟨hcz23_0, hcz23_1, hcz23_2, hcz23_3, hfz23_0, hfz23_1, hfz23_2, -⟩ := c4 BKz1.out; have hfz23_3 := blk_frozen BKz1.out 3) | ((with_reducible refine gate_callee (f := 72) rfl ?_); refine goesL_ (some 32) rfl rfl Try.func72 (by kernel_rfl) rfl #[.agg #[.int .i64 tz12, .int .i64 tz13, .int .i64 tz15, .slice Ao12 tz2.length co12], .agg #[.int .i64 tz6, .int .i64 tz8, .int .i64 tz9, .slice Ao14 tz0.length co14], .slice Ao15 tz17.length co15] rfl (by (try simp only [bitvec_to_nat]); rfl) ?_; (with_reducible refine (spec_PatchImage.calls k tz12 tz13 tz15 _ _ tz2 tz6 tz8 tz9 _ _ tz0 _ _ tz17 tz10 tz11 tz14 tz4 tz22 _ ?side1 ?side2 ?side3 ?side4 ?side5 ?side6 A5.out).mono ?_); (case side1 => refine (Kd.Q_reads' (e := 3) (base := w.heap.size) (ok := fun k_ => (some k_ ≠ (.slice Ao14 tz0.length co14 : Value).ownBlock ∧ some k_ ≠ (.slice Ao21 tz1.length co21 : Value).ownBlock)) (n := tz2.length) (c := co12) ?_).2.2; exact (by exact (Kd.Q_mono (Kd.Q_far (p := ⟨gbz2, 3, none⟩) (Kd.Q_far (p := ⟨gbz2, 2, none⟩) (Kd.Q_far (p := ⟨gbz2, 1, none⟩) (Kd.Q_far (p := ⟨gbz2, 0, none⟩) (Kd.Q_types HOz4.out BKz0.out (by decide)) (fun _ hk => hk.2) (.int .i64 tz3)) (fun _ hk => hk.2) (.int .i64 tz5)) (fun _ hk => hk.2) (.int .i64 tz7)) (fun _ hk => hk.2) (.slice Ao21 tz1.length co21)) (fun _ h_ => h_.1)))); (case side2 => exact (Kd.Q_reads' HOz4.out).2.1); (case side3 => refine (Kd.Q_reads' (e := 3) (base := w.heap.size) (ok := fun k_ => (some k_ ≠ (.slice Ao12 tz2.length co12 : Value).ownBlock ∧ some k_ ≠ (.slice Ao21 tz1.length co21 : Value).ownBlock)) (n := tz0.length) (c := co14) ?_).2.2; exact (by exact (Kd.Q_mono (Kd.Q_far (p := ⟨gbz2, 3, none⟩) (Kd.Q_far (p := ⟨gbz2, 2, none⟩) (Kd.Q_far (p := ⟨gbz2, 1, none⟩) (Kd.Q_far (p := ⟨gbz2, 0, none⟩) (Kd.Q_types HOz5.out BKz0.out (by decide)) (fun _ hk => hk.2) (.int .i64 tz3)) (fun _ hk => hk.2) (.int .i64 tz5)) (fun _ hk => hk.2) (.int .i64 tz7)) (fun _ hk => hk.2) (.slice Ao21 tz1.length co21)) (fun _ h_ => h_.1)))); (case side4 => exact (Kd.Q_reads' HOz5.out).2.1); (case side5 => refine (Kd.R_reads' (e := 47) (base := w.heap.size) (ok := fun k_ => True) (n := tz17.length) (c := co15) ?_).2.2; exact (by exact (Kd.R_mono (Kd.R_far (p := ⟨gbz2, 3, none⟩) (Kd.R_far (p := ⟨gbz2, 2, none⟩) (Kd.R_far (p := ⟨gbz2, 1, none⟩) (Kd.R_far (p := ⟨gbz2, 0, none⟩) (Kd.R_types HOz6.out BKz0.out (by decide)) (fun _ hk => hk.2) (.int .i64 tz3)) (fun _ hk => hk.2) (.int .i64 tz5)) (fun _ hk => hk.2) (.int .i64 tz7)) (fun _ hk => hk.2) (.slice Ao21 tz1.length co21)) (fun _ h_ => h_.1)))); (case side6 => exact (Kd.R_reads' HOz6.out).2.1); rintro e w24 ⟨vz4, rfl, ho0, hb⟩; refine ⟨_, rfl, ?_⟩; replace HOz6 := mk (Kd.R_below (by exact (Kd.R_mono (Kd.R_far (p := ⟨gbz2, 3, none⟩) (Kd.R_far (p := ⟨gbz2, 2, none⟩) (Kd.R_far (p := ⟨gbz2, 1, none⟩) (Kd.R_far (p := ⟨gbz2, 0, none⟩) (Kd.R_types HOz6.out BKz0.out (by decide)) (fun _ hk => hk.2) (.int .i64 tz3)) (fun _ hk => hk.2) (.int .i64 tz5)) (fun _ hk => hk.2) (.int .i64 tz7)) (fun _ hk => hk.2) (.slice Ao21 tz1.length co21)) (fun _ h_ => h_.1))) hb); have HOz9 := mk (Kd.R_lower (Kd.R_new' (Kd.R_new' (Kd.R_new' ho0 (Kd.Q_lt (by exact (Kd.Q_mono (Kd.Q_far (p := ⟨gbz2, 3, none⟩) (Kd.Q_far (p := ⟨gbz2, 2, none⟩) (Kd.Q_far (p := ⟨gbz2, 1, none⟩) (Kd.Q_far (p := ⟨gbz2, 0, none⟩) (Kd.Q_types HOz4.out BKz0.out (by decide)) (fun _ hk => hk.2) (.int .i64 tz3)) (fun _ hk => hk.2) (.int .i64 tz5)) (fun _ hk => hk.2) (.int .i64 tz7)) (fun _ hk => hk.2) (.slice Ao21 tz1.length co21)) (fun _ h_ => h_.1))))) (Kd.Q_lt (by exact (Kd.Q_mono (Kd.Q_far (p := ⟨gbz2, 3, none⟩) (Kd.Q_far (p := ⟨gbz2, 2, none⟩) (Kd.Q_far (p := ⟨gbz2, 1, none⟩) (Kd.Q_far (p := ⟨gbz2, 0, none⟩) (Kd.Q_types HOz5.out BKz0.out (by decide)) (fun _ hk => hk.2) (.int .i64 tz3)) (fun _ hk => hk.2) (.int .i64 tz5)) (fun _ hk => hk.2) (.int .i64 tz7)) (fun _ hk => hk.2) (.slice Ao21 tz1.length co21)) (fun _ h_ => h_.1))))) (Kd.R_lt (by exact (Kd.R_mono (Kd.R_far (p := ⟨gbz2, 3, none⟩) (Kd.R_far (p := ⟨gbz2, 2, none⟩) (Kd.R_far (p := ⟨gbz2, 1, none⟩) (Kd.R_far (p := ⟨gbz2, 0, none⟩) (Kd.R_types HOz7.out BKz0.out (by decide)) (fun _ hk => hk.2) (.int .i64 tz3)) (fun _ hk => hk.2) (.int .i64 tz5)) (fun _ hk => hk.2) (.int .i64 tz7)) (fun _ hk => hk.2) (.slice Ao21 tz1.length co21)) (fun _ h_ => h_.1))))) (below_size (by repeat (with_reducible first | exact HB.out | refine below_set ?_ GEz3.out)))); replace HOz4 := mk (Kd.Q_elder' (by exact (Kd.Q_mono (Kd.Q_far (p := ⟨gbz2, 3, none⟩) (Kd.Q_far (p := ⟨gbz2, 2, none⟩) (Kd.Q_far (p := ⟨gbz2, 1, none⟩) (Kd.Q_far (p := ⟨gbz2, 0, none⟩) (Kd.Q_types HOz4.out BKz0.out (by decide)) (fun _ hk => hk.2) (.int .i64 tz3)) (fun _ hk => hk.2) (.int .i64 tz5)) (fun _ hk => hk.2) (.int .i64 tz7)) (fun _ hk => hk.2) (.slice Ao21 tz1.length co21)) (fun _ h_ => h_.1))) (Kd.R_base ho0) hb); replace HOz5 := mk (Kd.Q_elder' (by exact (Kd.Q_mono (Kd.Q_far (p := ⟨gbz2, 3, none⟩) (Kd.Q_far (p := ⟨gbz2, 2, none⟩) (Kd.Q_far (p := ⟨gbz2, 1, none⟩) (Kd.Q_far (p := ⟨gbz2, 0, none⟩) (Kd.Q_types HOz5.out BKz0.out (by decide)) (fun _ hk => hk.2) (.int .i64 tz3)) (fun _ hk => hk.2) (.int .i64 tz5)) (fun _ hk => hk.2) (.int .i64 tz7)) (fun _ hk => hk.2) (.slice Ao21 tz1.length co21)) (fun _ h_ => h_.1))) (Kd.R_base ho0) hb); replace HOz7 := mk (Kd.R_elder' (by exact (Kd.R_mono (Kd.R_far (p := ⟨gbz2, 3, none⟩) (Kd.R_far (p := ⟨gbz2, 2, none⟩) (Kd.R_far (p := ⟨gbz2, 1, none⟩) (Kd.R_far (p := ⟨gbz2, 0, none⟩) (Kd.R_types HOz7.out BKz0.out (by decide)) (fun _ hk => hk.2) (.int .i64 tz3)) (fun _ hk => hk.2) (.int .i64 tz5)) (fun _ hk => hk.2) (.int .i64 tz7)) (fun _ hk => hk.2) (.slice Ao21 tz1.length co21)) (fun _ h_ => h_.1))) (Kd.R_base ho0) hb); replace BKz2 := mk (blk_below (g := gbz4) (o := .cells #[.int .i64 tz12, .int .i64 tz13, .int .i64 tz15, .slice Ao12 tz2.length co12] 27 (0, 0)) (by refine blk_far ?_ NBz4.out _; refine blk_far ?_ NBz4.out _; refine blk_far ?_ NBz4.out _; refine blk_far ?_ NBz4.out _; exact BKz2.out) hb); replace BKz1 := mk (blk_below (g := gbz3) (o := .cells #[.int .i64 tz6, .int .i64 tz8, .int .i64 tz9, .slice Ao14 tz0.length co14] 27 (0, 0)) (by refine blk_far ?_ NBz5.out _; refine blk_far ?_ NBz5.out _; refine blk_far ?_ NBz5.out _; refine blk_far ?_ NBz5.out _; exact BKz1.out) hb); replace BKz0 := mk (blk_below (g := gbz2) (o := .cells #[.int .i64 tz3, .int .i64 tz5, .int .i64 tz7, .slice Ao21 tz1.length co21] 27 (0, 0)) (by refine blk_put (cs := #[.int .i64 tz3, .int .i64 tz5, .int .i64 tz7, .slice none 0 0]) ?_ 3 _ rfl; refine blk_put (cs := #[.int .i64 tz3, .int .i64 tz5, .int .i64 0, .slice none 0 0]) ?_ 2 _ rfl; refine blk_put (cs := #[.int .i64 tz3, .int .i64 0, .int .i64 0, .slice none 0 0]) ?_ 1 _ rfl; refine blk_put (cs := #[.int .i64 0, .int .i64 0, .int .i64 0, .slice none 0 0]) ?_ 0 _ rfl; exact BKz0.out) hb); replace HB := mk (below_step (by repeat (with_reducible first | exact HB.out | refine below_set ?_ GEz3.out)) hb); (try clear hb); (try clear ho0)) | ((with_reducible refine gate_dst (N := 8) rfl ?_); refine box_event (by rfl) (N := 8) (by rfl) (cs := #[.int .i64 0, .int .i64 0, .int .i64 0, .slice none 0 0]) (t := 27) (by go_simp; done) ?_; intro gbz0 hg w25 hbox hb; replace HOz4 := mk (Kd.Q_below HOz4.out hb); replace HOz5 := mk (Kd.Q_below HOz5.out hb); replace HOz6 := mk (Kd.R_below HOz6.out hb); replace HOz7 := mk (Kd.R_below HOz7.out hb); replace HOz9 := mk (Kd.R_below HOz9.out hb); have BKz3 := mk (hbox); have GEz0 := mk ((by rw [hg]; exact (below_size HB.out) : w.heap.size ≤ gbz0)); replace HB := mk (below_step HB.out hb); have NBz0 := mk ((by rw [hg]; exact Nat.ne_of_lt (blk_lt BKz2.out) : gbz4 ≠ gbz0)); have NBz11 := mk ((by rw [hg]; exact Nat.ne_of_gt (blk_lt BKz2.out) : gbz0 ≠ gbz4)); replace BKz2 := mk (blk_below BKz2.out hb); have NBz1 := mk ((by rw [hg]; exact Nat.ne_of_lt (blk_lt BKz1.out) : gbz3 ≠ gbz0)); have NBz12 := mk ((by rw [hg]; exact Nat.ne_of_gt (blk_lt BKz1.out) : gbz0 ≠ gbz3)); replace BKz1 := mk (blk_below BKz1.out hb); have NBz2 := mk ((by rw [hg]; exact Nat.ne_of_lt (blk_lt BKz0.out) : gbz2 ≠ gbz0)); have NBz13 := mk ((by rw [hg]; exact Nat.ne_of_gt (blk_lt BKz0.out) : gbz0 ≠ gbz2)); replace BKz0 := mk (blk_below BKz0.out hb); clear hb hbox hg; obtain ⟨hcz29_0, hcz29_1, hcz29_2, hcz29_3, hfz29_0, hfz29_1, hfz29_2, hfz29_3⟩ := c4 BKz3.out; obtain ⟨Ao30, co30, eo30⟩ := Kd.R_slice HOz9.out; subst eo30))
 go_cut [47] (fun v47 wc => ∃ (kq : Nat) (x47_5 : Bool), v47 = .bool x47_5 ∧ Aside0 (laws_FnPatchImageTwice.j0 kq tz17 tz16 tz22 x47_5 tz12 tz13 tz15 tz2 tz6 tz8 tz9 tz0 tz3 tz5 tz7 tz1 tz10 tz11 tz14 tz4 = some r) ∧ Aside0 (kq ≤ k) ∧ Aside0 (Kd.R k47 47 wc w.heap.size (fun _ => True) (.slice Ao15 tz17.length co15) tz17) ∧ Aside0 (Kd.Q (Kd.int .i64) 3 wc w.heap.size (fun k_ => some k_ ≠ ((.slice Ao14 tz0.length co14) : Value).ownBlock ∧ some k_ ≠ ((.slice Ao21 tz1.length co21) : Value).ownBlock ∧ some k_ ≠ ((.slice Ao30 tz4.length co30) : Value).ownBlock) (.slice Ao12 tz2.length co12) tz2) ∧ Aside0 (Kd.Q (Kd.int .i64) 3 wc w.heap.size (fun k_ => some k_ ≠ ((.slice Ao12 tz2.length co12) : Value).ownBlock ∧ some k_ ≠ ((.slice Ao21 tz1.length co21) : Value).ownBlock ∧ some k_ ≠ ((.slice Ao30 tz4.length co30) : Value).ownBlock) (.slice Ao14 tz0.length co14) tz0) ∧ Aside0 (Kd.Q (Kd.int .i64) 3 wc w.heap.size (fun k_ => some k_ ≠ ((.slice Ao12 tz2.length co12) : Value).ownBlock ∧ some k_ ≠ ((.slice Ao14 tz0.length co14) : Value).ownBlock ∧ some k_ ≠ ((.slice Ao30 tz4.length co30) : Value).ownBlock) (.slice Ao21 tz1.length co21) tz1) ∧ Aside0 (Kd.Q (Kd.int .i64) 3 wc w.heap.size (fun k_ => some k_ ≠ ((.slice Ao12 tz2.length co12) : Value).ownBlock ∧ some k_ ≠ ((.slice Ao14 tz0.length co14) : Value).ownBlock ∧ some k_ ≠ ((.slice Ao21 tz1.length co21) : Value).ownBlock) (.slice Ao30 tz4.length co30) tz4) ∧ Aside0 (wc.heap[gbz4]? = some (.cells #[.int .i64 tz12, .int .i64 tz13, .int .i64 tz15, (.slice Ao12 tz2.length co12)] 27 (0, 0))) ∧ Aside0 (wc.heap[gbz3]? = some (.cells #[.int .i64 tz6, .int .i64 tz8, .int .i64 tz9, (.slice Ao14 tz0.length co14)] 27 (0, 0))) ∧ Aside0 (wc.heap[gbz2]? = some (.cells #[.int .i64 tz3, .int .i64 tz5, .int .i64 tz7, (.slice Ao21 tz1.length co21)] 27 (0, 0))) ∧ Aside0 (wc.heap[gbz0]? = some (.cells #[.int .i64 tz10, .int .i64 tz11, .int .i64 tz14, (.slice Ao30 tz4.length co30)] 27 (0, 0))) ∧ Aside0 (Below w.heap.size w wc))
 case first =>
  have H := HC6.out
  clear HC6
  replace H := Option.bind_eq_some_iff.mp H
  obtain ⟨tz25, A310, H⟩ := H
  replace H : (if tz25 = true then (if (tz16 != tz22) = true then (laws_FnPatchImageTwice.j0 k tz17 tz16 tz22 true tz12 tz13 tz15 tz2 tz6 tz8 tz9 tz0 tz3 tz5 tz7 tz1 tz10 tz11 tz14 tz4) else (laws_FnPatchImageTwice.j0 k tz17 tz16 tz22 (!tz16) tz12 tz13 tz15 tz2 tz6 tz8 tz9 tz0 tz3 tz5 tz7 tz1 tz10 tz11 tz14 tz4)) else (laws_FnPatchImageTwice.j0 k tz17 tz16 tz22 true tz12 tz13 tz15 tz2 tz6 tz8 tz9 tz0 tz3 tz5 tz7 tz1 tz10 tz11 tz14 tz4)) = some r := H
  have A31 := mk A310
  clear A310
  by_cases c32 : tz25 = true
  ·subst c32
   have H1 : (if (tz16 != tz22) = true then (laws_FnPatchImageTwice.j0 k tz17 tz16 tz22 true tz12 tz13 tz15 tz2 tz6 tz8 tz9 tz0 tz3 tz5 tz7 tz1 tz10 tz11 tz14 tz4) else (laws_FnPatchImageTwice.j0 k tz17 tz16 tz22 (!tz16) tz12 tz13 tz15 tz2 tz6 tz8 tz9 tz0 tz3 tz5 tz7 tz1 tz10 tz11 tz14 tz4)) = some r := by rw [if_pos rfl] at H; exact H
   clear H
   have H := H1
   clear H1
   by_cases c33 : (tz16 != tz22) = true
   ·rw [if_pos c33] at H
    have c33b0 : (tz16 != tz22) = true := c33
    (try (have c33b1 : decide (tz16 = tz22) = false := by simpa using c33))
    (try (have c33b2 : (tz16 == tz22) = false := by simpa using c33))
    (try (have c33b3 : ¬ (tz16 = tz22) := by simpa using c33))
    clear c33
    (skip)
    have H' := mk H
    clear H
    have hnc36 := NBz13.out
    obtain ⟨hcz37_0, hcz37_1, hcz37_2, hcz37_3, -⟩ := c4 BKz0.out
    have hnb38 := NBz11.out
    have hnc38 := NBz0.out
    have hnb39 := NBz12.out
    have hnc39 := NBz1.out
    go_wp2_with (first | ((with_reducible refine gate_callee (f := 26) rfl ?_); refine goesL_ (some 37) rfl rfl Try.func26 (by kernel_rfl) rfl #[.agg #[.int .i64 tz3, .int .i64 tz5, .int .i64 tz7, .slice Ao21 tz1.length co21], .agg #[.int .i64 tz10, .int .i64 tz11, .int .i64 tz14, .slice Ao30 tz4.length co30]] rfl (by (try simp only [bitvec_to_nat]); rfl) ?_; (with_reducible refine (laws_equalImage.calls k tz3 tz5 tz7 _ _ tz1 tz10 tz11 tz14 _ _ tz4 true _ ?side1 ?side2 ?side3 ?side4 A31.out).mono ?_); (case side1 => refine (Kd.R_reads' (e := 3) (base := w.heap.size) (ok := fun k_ => (((True ∧ some k_ ≠ (.slice Ao12 tz2.length co12 : Value).ownBlock) ∧ some k_ ≠ (.slice Ao14 tz0.length co14 : Value).ownBlock) ∧ some k_ ≠ (.slice Ao30 tz4.length co30 : Value).ownBlock)) (n := tz1.length) (c := co21) ?_).2.2; exact (by exact (Kd.R_mono (Kd.R_far (p := ⟨gbz0, 3, none⟩) (Kd.R_far (p := ⟨gbz0, 2, none⟩) (Kd.R_far (p := ⟨gbz0, 1, none⟩) (Kd.R_far (p := ⟨gbz0, 0, none⟩) (Kd.R_types HOz7.out BKz3.out (by decide)) (fun _ hk => hk.2) (.int .i64 tz10)) (fun _ hk => hk.2) (.int .i64 tz11)) (fun _ hk => hk.2) (.int .i64 tz14)) (fun _ hk => hk.2) (.slice Ao30 tz4.length co30)) (fun _ h_ => h_.1)))); (case side2 => exact (Kd.R_reads' HOz7.out).2.1); (case side3 => refine (Kd.R_reads' (e := 3) (base := w.heap.size) (ok := fun k_ => (((True ∧ some k_ ≠ (.slice Ao12 tz2.length co12 : Value).ownBlock) ∧ some k_ ≠ (.slice Ao14 tz0.length co14 : Value).ownBlock) ∧ some k_ ≠ (.slice Ao21 tz1.length co21 : Value).ownBlock)) (n := tz4.length) (c := co30) ?_).2.2; exact (by exact (Kd.R_mono (Kd.R_far (p := ⟨gbz0, 3, none⟩) (Kd.R_far (p := ⟨gbz0, 2, none⟩) (Kd.R_far (p := ⟨gbz0, 1, none⟩) (Kd.R_far (p := ⟨gbz0, 0, none⟩) (Kd.R_types HOz9.out BKz3.out (by decide)) (fun _ hk => hk.2) (.int .i64 tz10)) (fun _ hk => hk.2) (.int .i64 tz11)) (fun _ hk => hk.2) (.int .i64 tz14)) (fun _ hk => hk.2) (.slice Ao30 tz4.length co30)) (fun _ h_ => h_.1)))); (case side4 => exact (Kd.R_reads' HOz9.out).2.1); rintro e w41 ⟨rfl, hb⟩; refine ⟨_, rfl, ?_⟩; replace HOz4 := mk (Kd.Q_below (by exact (Kd.Q_mono (Kd.Q_far (p := ⟨gbz0, 3, none⟩) (Kd.Q_far (p := ⟨gbz0, 2, none⟩) (Kd.Q_far (p := ⟨gbz0, 1, none⟩) (Kd.Q_far (p := ⟨gbz0, 0, none⟩) (Kd.Q_types HOz4.out BKz3.out (by decide)) (fun _ hk => hk.2) (.int .i64 tz10)) (fun _ hk => hk.2) (.int .i64 tz11)) (fun _ hk => hk.2) (.int .i64 tz14)) (fun _ hk => hk.2) (.slice Ao30 tz4.length co30)) (fun _ h_ => h_.1))) hb); replace HOz5 := mk (Kd.Q_below (by exact (Kd.Q_mono (Kd.Q_far (p := ⟨gbz0, 3, none⟩) (Kd.Q_far (p := ⟨gbz0, 2, none⟩) (Kd.Q_far (p := ⟨gbz0, 1, none⟩) (Kd.Q_far (p := ⟨gbz0, 0, none⟩) (Kd.Q_types HOz5.out BKz3.out (by decide)) (fun _ hk => hk.2) (.int .i64 tz10)) (fun _ hk => hk.2) (.int .i64 tz11)) (fun _ hk => hk.2) (.int .i64 tz14)) (fun _ hk => hk.2) (.slice Ao30 tz4.length co30)) (fun _ h_ => h_.1))) hb); replace HOz6 := mk (Kd.R_below (by exact (Kd.R_mono (Kd.R_far (p := ⟨gbz0, 3, none⟩) (Kd.R_far (p := ⟨gbz0, 2, none⟩) (Kd.R_far (p := ⟨gbz0, 1, none⟩) (Kd.R_far (p := ⟨gbz0, 0, none⟩) (Kd.R_types HOz6.out BKz3.out (by decide)) (fun _ hk => hk.2) (.int .i64 tz10)) (fun _ hk => hk.2) (.int .i64 tz11)) (fun _ hk => hk.2) (.int .i64 tz14)) (fun _ hk => hk.2) (.slice Ao30 tz4.length co30)) (fun _ h_ => h_.1))) hb); replace HOz7 := mk (Kd.R_below (by exact (Kd.R_mono (Kd.R_far (p := ⟨gbz0, 3, none⟩) (Kd.R_far (p := ⟨gbz0, 2, none⟩) (Kd.R_far (p := ⟨gbz0, 1, none⟩) (Kd.R_far (p := ⟨gbz0, 0, none⟩) (Kd.R_types HOz7.out BKz3.out (by decide)) (fun _ hk => hk.2) (.int .i64 tz10)) (fun _ hk => hk.2) (.int .i64 tz11)) (fun _ hk => hk.2) (.int .i64 tz14)) (fun _ hk => hk.2) (.slice Ao30 tz4.length co30)) (fun _ h_ => h_.1))) hb); replace HOz9 := mk (Kd.R_below (by exact (Kd.R_mono (Kd.R_far (p := ⟨gbz0, 3, none⟩) (Kd.R_far (p := ⟨gbz0, 2, none⟩) (Kd.R_far (p := ⟨gbz0, 1, none⟩) (Kd.R_far (p := ⟨gbz0, 0, none⟩) (Kd.R_types HOz9.out BKz3.out (by decide)) (fun _ hk => hk.2) (.int .i64 tz10)) (fun _ hk => hk.2) (.int .i64 tz11)) (fun _ hk => hk.2) (.int .i64 tz14)) (fun _ hk => hk.2) (.slice Ao30 tz4.length co30)) (fun _ h_ => h_.1))) hb); replace BKz2 := mk (blk_below (g := gbz4) (o := .cells #[.int .i64 tz12, .int .i64 tz13, .int .i64 tz15, .slice Ao12 tz2.length co12] 27 (0, 0)) (by refine blk_far ?_ NBz0.out _; refine blk_far ?_ NBz0.out _; refine blk_far ?_ NBz0.out _; refine blk_far ?_ NBz0.out _; exact BKz2.out) hb); replace BKz1 := mk (blk_below (g := gbz3) (o := .cells #[.int .i64 tz6, .int .i64 tz8, .int .i64 tz9, .slice Ao14 tz0.length co14] 27 (0, 0)) (by refine blk_far ?_ NBz1.out _; refine blk_far ?_ NBz1.out _; refine blk_far ?_ NBz1.out _; refine blk_far ?_ NBz1.out _; exact BKz1.out) hb); replace BKz0 := mk (blk_below (g := gbz2) (o := .cells #[.int .i64 tz3, .int .i64 tz5, .int .i64 tz7, .slice Ao21 tz1.length co21] 27 (0, 0)) (by refine blk_far ?_ NBz2.out _; refine blk_far ?_ NBz2.out _; refine blk_far ?_ NBz2.out _; refine blk_far ?_ NBz2.out _; exact BKz0.out) hb); replace BKz3 := mk (blk_below (g := gbz0) (o := .cells #[.int .i64 tz10, .int .i64 tz11, .int .i64 tz14, .slice Ao30 tz4.length co30] 27 (0, 0)) (by refine blk_put (cs := #[.int .i64 tz10, .int .i64 tz11, .int .i64 tz14, .slice none 0 0]) ?_ 3 _ rfl; refine blk_put (cs := #[.int .i64 tz10, .int .i64 tz11, .int .i64 0, .slice none 0 0]) ?_ 2 _ rfl; refine blk_put (cs := #[.int .i64 tz10, .int .i64 0, .int .i64 0, .slice none 0 0]) ?_ 1 _ rfl; refine blk_put (cs := #[.int .i64 0, .int .i64 0, .int .i64 0, .slice none 0 0]) ?_ 0 _ rfl; exact BKz3.out) hb); replace HB := mk (below_step (by repeat (with_reducible first | exact HB.out | refine below_set ?_ GEz0.out)) hb); (try clear hb)))
    go_meet
    case rel => exact ⟨_, (true), (by rfl), H', ⟨by omega⟩, HOz6, ⟨by exact Kd.Q_mono HOz4.out (fun _ hk => ⟨hk.1.1, ⟨hk.1.2, hk.2⟩⟩)⟩, ⟨by exact Kd.Q_mono HOz5.out (fun _ hk => ⟨hk.1.1, ⟨hk.1.2, hk.2⟩⟩)⟩, ⟨Kd.Q_of_R (by exact Kd.R_mono HOz7.out (fun _ hk => ⟨hk.1.1.2, ⟨hk.1.2, hk.2⟩⟩))⟩, ⟨Kd.Q_of_R (by exact Kd.R_mono HOz9.out (fun _ hk => ⟨hk.1.1.2, ⟨hk.1.2, hk.2⟩⟩))⟩, BKz2, BKz1, BKz0, BKz3, HB⟩
   rw [if_neg c33] at H
   have c33b0 : (tz16 != tz22) = false := by simpa using c33
   (try (have c33b1 : decide (tz16 = tz22) = true := by simpa using c33))
   (try (have c33b2 : (tz16 == tz22) = true := by simpa using c33))
   clear c33
   (skip)
   have H' := mk H
   clear H
   have hnc44 := NBz13.out
   obtain ⟨hcz45_0, hcz45_1, hcz45_2, hcz45_3, -⟩ := c4 BKz0.out
   have hnb46 := NBz11.out
   have hnc46 := NBz0.out
   have hnb47 := NBz12.out
   have hnc47 := NBz1.out
   go_wp2_with (first | ((with_reducible refine gate_callee (f := 26) rfl ?_); refine goesL_ (some 37) rfl rfl Try.func26 (by kernel_rfl) rfl #[.agg #[.int .i64 tz3, .int .i64 tz5, .int .i64 tz7, .slice Ao21 tz1.length co21], .agg #[.int .i64 tz10, .int .i64 tz11, .int .i64 tz14, .slice Ao30 tz4.length co30]] rfl (by (try simp only [bitvec_to_nat]); rfl) ?_; (with_reducible refine (laws_equalImage.calls k tz3 tz5 tz7 _ _ tz1 tz10 tz11 tz14 _ _ tz4 true _ ?side1 ?side2 ?side3 ?side4 A31.out).mono ?_); (case side1 => refine (Kd.R_reads' (e := 3) (base := w.heap.size) (ok := fun k_ => (((True ∧ some k_ ≠ (.slice Ao12 tz2.length co12 : Value).ownBlock) ∧ some k_ ≠ (.slice Ao14 tz0.length co14 : Value).ownBlock) ∧ some k_ ≠ (.slice Ao30 tz4.length co30 : Value).ownBlock)) (n := tz1.length) (c := co21) ?_).2.2; exact (by exact (Kd.R_mono (Kd.R_far (p := ⟨gbz0, 3, none⟩) (Kd.R_far (p := ⟨gbz0, 2, none⟩) (Kd.R_far (p := ⟨gbz0, 1, none⟩) (Kd.R_far (p := ⟨gbz0, 0, none⟩) (Kd.R_types HOz7.out BKz3.out (by decide)) (fun _ hk => hk.2) (.int .i64 tz10)) (fun _ hk => hk.2) (.int .i64 tz11)) (fun _ hk => hk.2) (.int .i64 tz14)) (fun _ hk => hk.2) (.slice Ao30 tz4.length co30)) (fun _ h_ => h_.1)))); (case side2 => exact (Kd.R_reads' HOz7.out).2.1); (case side3 => refine (Kd.R_reads' (e := 3) (base := w.heap.size) (ok := fun k_ => (((True ∧ some k_ ≠ (.slice Ao12 tz2.length co12 : Value).ownBlock) ∧ some k_ ≠ (.slice Ao14 tz0.length co14 : Value).ownBlock) ∧ some k_ ≠ (.slice Ao21 tz1.length co21 : Value).ownBlock)) (n := tz4.length) (c := co30) ?_).2.2; exact (by exact (Kd.R_mono (Kd.R_far (p := ⟨gbz0, 3, none⟩) (Kd.R_far (p := ⟨gbz0, 2, none⟩) (Kd.R_far (p := ⟨gbz0, 1, none⟩) (Kd.R_far (p := ⟨gbz0, 0, none⟩) (Kd.R_types HOz9.out BKz3.out (by decide)) (fun _ hk => hk.2) (.int .i64 tz10)) (fun _ hk => hk.2) (.int .i64 tz11)) (fun _ hk => hk.2) (.int .i64 tz14)) (fun _ hk => hk.2) (.slice Ao30 tz4.length co30)) (fun _ h_ => h_.1)))); (case side4 => exact (Kd.R_reads' HOz9.out).2.1); rintro e w49 ⟨rfl, hb⟩; refine ⟨_, rfl, ?_⟩; replace HOz4 := mk (Kd.Q_below (by exact (Kd.Q_mono (Kd.Q_far (p := ⟨gbz0, 3, none⟩) (Kd.Q_far (p := ⟨gbz0, 2, none⟩) (Kd.Q_far (p := ⟨gbz0, 1, none⟩) (Kd.Q_far (p := ⟨gbz0, 0, none⟩) (Kd.Q_types HOz4.out BKz3.out (by decide)) (fun _ hk => hk.2) (.int .i64 tz10)) (fun _ hk => hk.2) (.int .i64 tz11)) (fun _ hk => hk.2) (.int .i64 tz14)) (fun _ hk => hk.2) (.slice Ao30 tz4.length co30)) (fun _ h_ => h_.1))) hb); replace HOz5 := mk (Kd.Q_below (by exact (Kd.Q_mono (Kd.Q_far (p := ⟨gbz0, 3, none⟩) (Kd.Q_far (p := ⟨gbz0, 2, none⟩) (Kd.Q_far (p := ⟨gbz0, 1, none⟩) (Kd.Q_far (p := ⟨gbz0, 0, none⟩) (Kd.Q_types HOz5.out BKz3.out (by decide)) (fun _ hk => hk.2) (.int .i64 tz10)) (fun _ hk => hk.2) (.int .i64 tz11)) (fun _ hk => hk.2) (.int .i64 tz14)) (fun _ hk => hk.2) (.slice Ao30 tz4.length co30)) (fun _ h_ => h_.1))) hb); replace HOz6 := mk (Kd.R_below (by exact (Kd.R_mono (Kd.R_far (p := ⟨gbz0, 3, none⟩) (Kd.R_far (p := ⟨gbz0, 2, none⟩) (Kd.R_far (p := ⟨gbz0, 1, none⟩) (Kd.R_far (p := ⟨gbz0, 0, none⟩) (Kd.R_types HOz6.out BKz3.out (by decide)) (fun _ hk => hk.2) (.int .i64 tz10)) (fun _ hk => hk.2) (.int .i64 tz11)) (fun _ hk => hk.2) (.int .i64 tz14)) (fun _ hk => hk.2) (.slice Ao30 tz4.length co30)) (fun _ h_ => h_.1))) hb); replace HOz7 := mk (Kd.R_below (by exact (Kd.R_mono (Kd.R_far (p := ⟨gbz0, 3, none⟩) (Kd.R_far (p := ⟨gbz0, 2, none⟩) (Kd.R_far (p := ⟨gbz0, 1, none⟩) (Kd.R_far (p := ⟨gbz0, 0, none⟩) (Kd.R_types HOz7.out BKz3.out (by decide)) (fun _ hk => hk.2) (.int .i64 tz10)) (fun _ hk => hk.2) (.int .i64 tz11)) (fun _ hk => hk.2) (.int .i64 tz14)) (fun _ hk => hk.2) (.slice Ao30 tz4.length co30)) (fun _ h_ => h_.1))) hb); replace HOz9 := mk (Kd.R_below (by exact (Kd.R_mono (Kd.R_far (p := ⟨gbz0, 3, none⟩) (Kd.R_far (p := ⟨gbz0, 2, none⟩) (Kd.R_far (p := ⟨gbz0, 1, none⟩) (Kd.R_far (p := ⟨gbz0, 0, none⟩) (Kd.R_types HOz9.out BKz3.out (by decide)) (fun _ hk => hk.2) (.int .i64 tz10)) (fun _ hk => hk.2) (.int .i64 tz11)) (fun _ hk => hk.2) (.int .i64 tz14)) (fun _ hk => hk.2) (.slice Ao30 tz4.length co30)) (fun _ h_ => h_.1))) hb); replace BKz2 := mk (blk_below (g := gbz4) (o := .cells #[.int .i64 tz12, .int .i64 tz13, .int .i64 tz15, .slice Ao12 tz2.length co12] 27 (0, 0)) (by refine blk_far ?_ NBz0.out _; refine blk_far ?_ NBz0.out _; refine blk_far ?_ NBz0.out _; refine blk_far ?_ NBz0.out _; exact BKz2.out) hb); replace BKz1 := mk (blk_below (g := gbz3) (o := .cells #[.int .i64 tz6, .int .i64 tz8, .int .i64 tz9, .slice Ao14 tz0.length co14] 27 (0, 0)) (by refine blk_far ?_ NBz1.out _; refine blk_far ?_ NBz1.out _; refine blk_far ?_ NBz1.out _; refine blk_far ?_ NBz1.out _; exact BKz1.out) hb); replace BKz0 := mk (blk_below (g := gbz2) (o := .cells #[.int .i64 tz3, .int .i64 tz5, .int .i64 tz7, .slice Ao21 tz1.length co21] 27 (0, 0)) (by refine blk_far ?_ NBz2.out _; refine blk_far ?_ NBz2.out _; refine blk_far ?_ NBz2.out _; refine blk_far ?_ NBz2.out _; exact BKz0.out) hb); replace BKz3 := mk (blk_below (g := gbz0) (o := .cells #[.int .i64 tz10, .int .i64 tz11, .int .i64 tz14, .slice Ao30 tz4.length co30] 27 (0, 0)) (by refine blk_put (cs := #[.int .i64 tz10, .int .i64 tz11, .int .i64 tz14, .slice none 0 0]) ?_ 3 _ rfl; refine blk_put (cs := #[.int .i64 tz10, .int .i64 tz11, .int .i64 0, .slice none 0 0]) ?_ 2 _ rfl; refine blk_put (cs := #[.int .i64 tz10, .int .i64 0, .int .i64 0, .slice none 0 0]) ?_ 1 _ rfl; refine blk_put (cs := #[.int .i64 0, .int .i64 0, .int .i64 0, .slice none 0 0]) ?_ 0 _ rfl; exact BKz3.out) hb); replace HB := mk (below_step (by repeat (with_reducible first | exact HB.out | refine below_set ?_ GEz0.out)) hb); (try clear hb)))
   go_meet
   case rel => exact ⟨_, (!tz16), (by rfl), H', ⟨by omega⟩, HOz6, ⟨by exact Kd.Q_mono HOz4.out (fun _ hk => ⟨hk.1.1, ⟨hk.1.2, hk.2⟩⟩)⟩, ⟨by exact Kd.Q_mono HOz5.out (fun _ hk => ⟨hk.1.1, ⟨hk.1.2, hk.2⟩⟩)⟩, ⟨Kd.Q_of_R (by exact Kd.R_mono HOz7.out (fun _ hk => ⟨hk.1.1.2, ⟨hk.1.2, hk.2⟩⟩))⟩, ⟨Kd.Q_of_R (by exact Kd.R_mono HOz9.out (fun _ hk => ⟨hk.1.1.2, ⟨hk.1.2, hk.2⟩⟩))⟩, BKz2, BKz1, BKz0, BKz3, HB⟩
  replace c32 := Bool.eq_false_iff.mpr c32
  subst c32
  have H1 : (laws_FnPatchImageTwice.j0 k tz17 tz16 tz22 true tz12 tz13 tz15 tz2 tz6 tz8 tz9 tz0 tz3 tz5 tz7 tz1 tz10 tz11 tz14 tz4) = some r := by rw [if_neg (show ¬ (false = true) by decide)] at H; exact H
  clear H
  have H := H1
  clear H1
  have H' := mk H
  clear H
  have hnc52 := NBz13.out
  obtain ⟨hcz53_0, hcz53_1, hcz53_2, hcz53_3, -⟩ := c4 BKz0.out
  have hnb54 := NBz11.out
  have hnc54 := NBz0.out
  have hnb55 := NBz12.out
  have hnc55 := NBz1.out
  go_wp2_with (first | ((with_reducible refine gate_callee (f := 26) rfl ?_); refine goesL_ (some 37) rfl rfl Try.func26 (by kernel_rfl) rfl #[.agg #[.int .i64 tz3, .int .i64 tz5, .int .i64 tz7, .slice Ao21 tz1.length co21], .agg #[.int .i64 tz10, .int .i64 tz11, .int .i64 tz14, .slice Ao30 tz4.length co30]] rfl (by (try simp only [bitvec_to_nat]); rfl) ?_; (with_reducible refine (laws_equalImage.calls k tz3 tz5 tz7 _ _ tz1 tz10 tz11 tz14 _ _ tz4 false _ ?side1 ?side2 ?side3 ?side4 A31.out).mono ?_); (case side1 => refine (Kd.R_reads' (e := 3) (base := w.heap.size) (ok := fun k_ => (((True ∧ some k_ ≠ (.slice Ao12 tz2.length co12 : Value).ownBlock) ∧ some k_ ≠ (.slice Ao14 tz0.length co14 : Value).ownBlock) ∧ some k_ ≠ (.slice Ao30 tz4.length co30 : Value).ownBlock)) (n := tz1.length) (c := co21) ?_).2.2; exact (by exact (Kd.R_mono (Kd.R_far (p := ⟨gbz0, 3, none⟩) (Kd.R_far (p := ⟨gbz0, 2, none⟩) (Kd.R_far (p := ⟨gbz0, 1, none⟩) (Kd.R_far (p := ⟨gbz0, 0, none⟩) (Kd.R_types HOz7.out BKz3.out (by decide)) (fun _ hk => hk.2) (.int .i64 tz10)) (fun _ hk => hk.2) (.int .i64 tz11)) (fun _ hk => hk.2) (.int .i64 tz14)) (fun _ hk => hk.2) (.slice Ao30 tz4.length co30)) (fun _ h_ => h_.1)))); (case side2 => exact (Kd.R_reads' HOz7.out).2.1); (case side3 => refine (Kd.R_reads' (e := 3) (base := w.heap.size) (ok := fun k_ => (((True ∧ some k_ ≠ (.slice Ao12 tz2.length co12 : Value).ownBlock) ∧ some k_ ≠ (.slice Ao14 tz0.length co14 : Value).ownBlock) ∧ some k_ ≠ (.slice Ao21 tz1.length co21 : Value).ownBlock)) (n := tz4.length) (c := co30) ?_).2.2; exact (by exact (Kd.R_mono (Kd.R_far (p := ⟨gbz0, 3, none⟩) (Kd.R_far (p := ⟨gbz0, 2, none⟩) (Kd.R_far (p := ⟨gbz0, 1, none⟩) (Kd.R_far (p := ⟨gbz0, 0, none⟩) (Kd.R_types HOz9.out BKz3.out (by decide)) (fun _ hk => hk.2) (.int .i64 tz10)) (fun _ hk => hk.2) (.int .i64 tz11)) (fun _ hk => hk.2) (.int .i64 tz14)) (fun _ hk => hk.2) (.slice Ao30 tz4.length co30)) (fun _ h_ => h_.1)))); (case side4 => exact (Kd.R_reads' HOz9.out).2.1); rintro e w57 ⟨rfl, hb⟩; refine ⟨_, rfl, ?_⟩; replace HOz4 := mk (Kd.Q_below (by exact (Kd.Q_mono (Kd.Q_far (p := ⟨gbz0, 3, none⟩) (Kd.Q_far (p := ⟨gbz0, 2, none⟩) (Kd.Q_far (p := ⟨gbz0, 1, none⟩) (Kd.Q_far (p := ⟨gbz0, 0, none⟩) (Kd.Q_types HOz4.out BKz3.out (by decide)) (fun _ hk => hk.2) (.int .i64 tz10)) (fun _ hk => hk.2) (.int .i64 tz11)) (fun _ hk => hk.2) (.int .i64 tz14)) (fun _ hk => hk.2) (.slice Ao30 tz4.length co30)) (fun _ h_ => h_.1))) hb); replace HOz5 := mk (Kd.Q_below (by exact (Kd.Q_mono (Kd.Q_far (p := ⟨gbz0, 3, none⟩) (Kd.Q_far (p := ⟨gbz0, 2, none⟩) (Kd.Q_far (p := ⟨gbz0, 1, none⟩) (Kd.Q_far (p := ⟨gbz0, 0, none⟩) (Kd.Q_types HOz5.out BKz3.out (by decide)) (fun _ hk => hk.2) (.int .i64 tz10)) (fun _ hk => hk.2) (.int .i64 tz11)) (fun _ hk => hk.2) (.int .i64 tz14)) (fun _ hk => hk.2) (.slice Ao30 tz4.length co30)) (fun _ h_ => h_.1))) hb); replace HOz6 := mk (Kd.R_below (by exact (Kd.R_mono (Kd.R_far (p := ⟨gbz0, 3, none⟩) (Kd.R_far (p := ⟨gbz0, 2, none⟩) (Kd.R_far (p := ⟨gbz0, 1, none⟩) (Kd.R_far (p := ⟨gbz0, 0, none⟩) (Kd.R_types HOz6.out BKz3.out (by decide)) (fun _ hk => hk.2) (.int .i64 tz10)) (fun _ hk => hk.2) (.int .i64 tz11)) (fun _ hk => hk.2) (.int .i64 tz14)) (fun _ hk => hk.2) (.slice Ao30 tz4.length co30)) (fun _ h_ => h_.1))) hb); replace HOz7 := mk (Kd.R_below (by exact (Kd.R_mono (Kd.R_far (p := ⟨gbz0, 3, none⟩) (Kd.R_far (p := ⟨gbz0, 2, none⟩) (Kd.R_far (p := ⟨gbz0, 1, none⟩) (Kd.R_far (p := ⟨gbz0, 0, none⟩) (Kd.R_types HOz7.out BKz3.out (by decide)) (fun _ hk => hk.2) (.int .i64 tz10)) (fun _ hk => hk.2) (.int .i64 tz11)) (fun _ hk => hk.2) (.int .i64 tz14)) (fun _ hk => hk.2) (.slice Ao30 tz4.length co30)) (fun _ h_ => h_.1))) hb); replace HOz9 := mk (Kd.R_below (by exact (Kd.R_mono (Kd.R_far (p := ⟨gbz0, 3, none⟩) (Kd.R_far (p := ⟨gbz0, 2, none⟩) (Kd.R_far (p := ⟨gbz0, 1, none⟩) (Kd.R_far (p := ⟨gbz0, 0, none⟩) (Kd.R_types HOz9.out BKz3.out (by decide)) (fun _ hk => hk.2) (.int .i64 tz10)) (fun _ hk => hk.2) (.int .i64 tz11)) (fun _ hk => hk.2) (.int .i64 tz14)) (fun _ hk => hk.2) (.slice Ao30 tz4.length co30)) (fun _ h_ => h_.1))) hb); replace BKz2 := mk (blk_below (g := gbz4) (o := .cells #[.int .i64 tz12, .int .i64 tz13, .int .i64 tz15, .slice Ao12 tz2.length co12] 27 (0, 0)) (by refine blk_far ?_ NBz0.out _; refine blk_far ?_ NBz0.out _; refine blk_far ?_ NBz0.out _; refine blk_far ?_ NBz0.out _; exact BKz2.out) hb); replace BKz1 := mk (blk_below (g := gbz3) (o := .cells #[.int .i64 tz6, .int .i64 tz8, .int .i64 tz9, .slice Ao14 tz0.length co14] 27 (0, 0)) (by refine blk_far ?_ NBz1.out _; refine blk_far ?_ NBz1.out _; refine blk_far ?_ NBz1.out _; refine blk_far ?_ NBz1.out _; exact BKz1.out) hb); replace BKz0 := mk (blk_below (g := gbz2) (o := .cells #[.int .i64 tz3, .int .i64 tz5, .int .i64 tz7, .slice Ao21 tz1.length co21] 27 (0, 0)) (by refine blk_far ?_ NBz2.out _; refine blk_far ?_ NBz2.out _; refine blk_far ?_ NBz2.out _; refine blk_far ?_ NBz2.out _; exact BKz0.out) hb); replace BKz3 := mk (blk_below (g := gbz0) (o := .cells #[.int .i64 tz10, .int .i64 tz11, .int .i64 tz14, .slice Ao30 tz4.length co30] 27 (0, 0)) (by refine blk_put (cs := #[.int .i64 tz10, .int .i64 tz11, .int .i64 tz14, .slice none 0 0]) ?_ 3 _ rfl; refine blk_put (cs := #[.int .i64 tz10, .int .i64 tz11, .int .i64 0, .slice none 0 0]) ?_ 2 _ rfl; refine blk_put (cs := #[.int .i64 tz10, .int .i64 0, .int .i64 0, .slice none 0 0]) ?_ 1 _ rfl; refine blk_put (cs := #[.int .i64 0, .int .i64 0, .int .i64 0, .slice none 0 0]) ?_ 0 _ rfl; exact BKz3.out) hb); replace HB := mk (below_step (by repeat (with_reducible first | exact HB.out | refine below_set ?_ GEz0.out)) hb); (try clear hb)))
  go_meet
  case rel => exact ⟨_, (true), (by rfl), H', ⟨by omega⟩, HOz6, ⟨by exact Kd.Q_mono HOz4.out (fun _ hk => ⟨hk.1.1, ⟨hk.1.2, hk.2⟩⟩)⟩, ⟨by exact Kd.Q_mono HOz5.out (fun _ hk => ⟨hk.1.1, ⟨hk.1.2, hk.2⟩⟩)⟩, ⟨Kd.Q_of_R (by exact Kd.R_mono HOz7.out (fun _ hk => ⟨hk.1.1.2, ⟨hk.1.2, hk.2⟩⟩))⟩, ⟨Kd.Q_of_R (by exact Kd.R_mono HOz9.out (fun _ hk => ⟨hk.1.1.2, ⟨hk.1.2, hk.2⟩⟩))⟩, BKz2, BKz1, BKz0, BKz3, HB⟩
 case rest =>
  clear HC6
  obtain ⟨kq, x47_5, rfl, HA, HJ5, HO_5, HOz2, HOz1, HOz0, HOz3, BKz2, BKz1, BKz0, BKz3, HB⟩ := hcut
  cases kq with
  | zero => exact absurd HA.out (by simp [laws_FnPatchImageTwice.j0])
  | succ kj5 =>
   have H := HA.out
   clear HA
   simp only [laws_FnPatchImageTwice.j0] at H
   by_cases c58 : x47_5 = true
   ·subst c58
    have H1 : ((laws_equalImage.f kj5 tz3 tz5 tz7 tz1 tz10 tz11 tz14 tz4).bind fun tz27 => (if tz27 = true then (some (tz16 == tz22)) else (some false))) = some r := by rw [if_pos rfl] at H; exact H
    clear H
    have H := H1
    clear H1
    replace H := Option.bind_eq_some_iff.mp H
    obtain ⟨tz27, A590, H⟩ := H
    replace H : (if tz27 = true then (some (tz16 == tz22)) else (some false)) = some r := H
    have A59 := mk A590
    clear A590
    by_cases c60 : tz27 = true
    ·subst c60
     have H1 : (some (tz16 == tz22)) = some r := by rw [if_pos rfl] at H; exact H
     clear H
     have H := H1
     clear H1
     obtain rfl := Option.some.inj H
     obtain ⟨hcz64_0, hcz64_1, hcz64_2, hcz64_3, -⟩ := c4 BKz0.out
     obtain ⟨hcz67_0, hcz67_1, hcz67_2, hcz67_3, -⟩ := c4 BKz3.out
     go_wp2_with (first | ((with_reducible refine gate_callee (f := 26) rfl ?_); refine goesL_ (some 50) rfl rfl Try.func26 (by kernel_rfl) rfl #[.agg #[.int .i64 tz3, .int .i64 tz5, .int .i64 tz7, .slice Ao21 tz1.length co21], .agg #[.int .i64 tz10, .int .i64 tz11, .int .i64 tz14, .slice Ao30 tz4.length co30]] rfl (by (try simp only [bitvec_to_nat]); rfl) ?_; (with_reducible refine (laws_equalImage.calls kj5 tz3 tz5 tz7 _ _ tz1 tz10 tz11 tz14 _ _ tz4 true _ ?side1 ?side2 ?side3 ?side4 A59.out).mono ?_); (case side1 => repeat (exact (Kd.Q_reads' HOz0.out).2.2)); (case side2 => exact (Kd.Q_reads' HOz0.out).2.1); (case side3 => repeat (exact (Kd.Q_reads' HOz3.out).2.2)); (case side4 => exact (Kd.Q_reads' HOz3.out).2.1); rintro e w68 ⟨rfl, hb⟩; refine ⟨_, rfl, ?_⟩; have n9_ := mk (below_step HB.out hb); clear HO_5; clear HOz2; clear HOz1; clear HOz0; clear HOz3; clear BKz2; clear BKz1; clear BKz0; clear BKz3; clear HB; have HB := n9_; (try clear hb)))
     go_ret
     exact ⟨by rfl, by exact HB.out⟩
    replace c60 := Bool.eq_false_iff.mpr c60
    subst c60
    have H1 : (some false) = some r := by rw [if_neg (show ¬ (false = true) by decide)] at H; exact H
    clear H
    have H := H1
    clear H1
    exact absurd ((Option.some.inj H).trans HRT.out) (by decide)
   replace c58 := Bool.eq_false_iff.mpr c58
   subst c58
   have H1 : ((impl_PatchImage.f kj5 tz3 tz5 tz7 tz1 tz6 tz8 tz9 tz0 tz17).bind fun btz3 => (if btz3.2.2.2.2 = true then ((laws_equalImage.f kj5 btz3.1 btz3.2.1 btz3.2.2.1 btz3.2.2.2.1 tz3 tz5 tz7 tz1).bind fun tz26 => (if tz26 = true then ((impl_GapOf.f kj5 tz3 tz5 tz7 tz1 tz6 tz8 tz9 tz0).bind fun tz24 => ((impl_GapOf.f kj5 tz12 tz13 tz15 tz2 tz6 tz8 tz9 tz0).bind fun tz23 => (some (decide (tz24 ≤ tz23))))) else (some false))) else (some false))) = some r := by rw [if_neg (show ¬ (false = true) by decide)] at H; exact H
   clear H
   have H := H1
   clear H1
   replace H := Option.bind_eq_some_iff.mp H
   obtain ⟨⟨tz19, tz20, tz21, tz18, tz28⟩, A770, H⟩ := H
   replace H : (if tz28 = true then ((laws_equalImage.f kj5 tz19 tz20 tz21 tz18 tz3 tz5 tz7 tz1).bind fun tz26 => (if tz26 = true then ((impl_GapOf.f kj5 tz3 tz5 tz7 tz1 tz6 tz8 tz9 tz0).bind fun tz24 => ((impl_GapOf.f kj5 tz12 tz13 tz15 tz2 tz6 tz8 tz9 tz0).bind fun tz23 => (some (decide (tz24 ≤ tz23))))) else (some false))) else (some false)) = some r := H
   have A77 := mk A770
   clear A770
   by_cases c78 : tz28 = true
   ·subst c78
    have H1 : ((laws_equalImage.f kj5 tz19 tz20 tz21 tz18 tz3 tz5 tz7 tz1).bind fun tz26 => (if tz26 = true then ((impl_GapOf.f kj5 tz3 tz5 tz7 tz1 tz6 tz8 tz9 tz0).bind fun tz24 => ((impl_GapOf.f kj5 tz12 tz13 tz15 tz2 tz6 tz8 tz9 tz0).bind fun tz23 => (some (decide (tz24 ≤ tz23))))) else (some false))) = some r := by rw [if_pos rfl] at H; exact H
    clear H
    have H := H1
    clear H1
    replace H := Option.bind_eq_some_iff.mp H
    obtain ⟨tz26, A790, H⟩ := H
    replace H : (if tz26 = true then ((impl_GapOf.f kj5 tz3 tz5 tz7 tz1 tz6 tz8 tz9 tz0).bind fun tz24 => ((impl_GapOf.f kj5 tz12 tz13 tz15 tz2 tz6 tz8 tz9 tz0).bind fun tz23 => (some (decide (tz24 ≤ tz23))))) else (some false)) = some r := H
    have A79 := mk A790
    clear A790
    by_cases c80 : tz26 = true
    ·subst c80
     have H1 : ((impl_GapOf.f kj5 tz3 tz5 tz7 tz1 tz6 tz8 tz9 tz0).bind fun tz24 => ((impl_GapOf.f kj5 tz12 tz13 tz15 tz2 tz6 tz8 tz9 tz0).bind fun tz23 => (some (decide (tz24 ≤ tz23))))) = some r := by rw [if_pos rfl] at H; exact H
     clear H
     have H := H1
     clear H1
     replace H := Option.bind_eq_some_iff.mp H
     obtain ⟨tz24, A810, H⟩ := H
     replace H : ((impl_GapOf.f kj5 tz12 tz13 tz15 tz2 tz6 tz8 tz9 tz0).bind fun tz23 => (some (decide (tz24 ≤ tz23)))) = some r := H
     have A81 := mk A810
     clear A810
     replace H := Option.bind_eq_some_iff.mp H
     obtain ⟨tz23, A820, H⟩ := H
     replace H : (some (decide (tz24 ≤ tz23))) = some r := H
     have A82 := mk A820
     clear A820
     obtain rfl := Option.some.inj H
     obtain ⟨hcz86_0, hcz86_1, hcz86_2, hcz86_3, -⟩ := c4 BKz0.out
     obtain ⟨hcz89_0, hcz89_1, hcz89_2, hcz89_3, -⟩ := c4 BKz1.out
     try go_wp2_with (first | ((with_reducible refine gate_callee (f := 74) rfl ?_); refine goesL_ (some 60) rfl rfl Try.func74 (by kernel_rfl) rfl #[.agg #[.int .i64 tz3, .int .i64 tz5, .int .i64 tz7, .slice Ao21 tz1.length co21], .agg #[.int .i64 tz6, .int .i64 tz8, .int .i64 tz9, .slice Ao14 tz0.length co14], .slice Ao15 tz17.length co15] rfl (by (try simp only [bitvec_to_nat]); rfl) ?_; (with_reducible refine (impl_PatchImage.calls kj5 tz3 tz5 tz7 _ _ tz1 tz6 tz8 tz9 _ _ tz0 _ _ tz17 tz19 tz20 tz21 tz18 true _ ?side1 ?side2 ?side3 ?side4 ?side5 ?side6 A77.out).mono ?_); (case side1 => repeat (exact (Kd.Q_reads' HOz0.out).2.2)); (case side2 => exact (Kd.Q_reads' HOz0.out).2.1); (case side3 => repeat (exact (Kd.Q_reads' HOz1.out).2.2)); (case side4 => exact (Kd.Q_reads' HOz1.out).2.1); (case side5 => repeat (exact (Kd.R_reads' HO_5.out).2.2)); (case side6 => exact (Kd.R_reads' HO_5.out).2.1); rintro e w90 ⟨vz5, rfl, ho0, hb⟩; refine ⟨_, rfl, ?_⟩; replace HO_5 := mk (Kd.R_below HO_5.out hb); have HOz8 := mk (Kd.R_lower (Kd.R_new' (Kd.R_new' (Kd.R_new' (Kd.R_new' ho0 (Kd.Q_lt HOz2.out)) (Kd.Q_lt HOz1.out)) (Kd.Q_lt HOz0.out)) (Kd.Q_lt HOz3.out)) (below_size HB.out)); replace HOz2 := mk (Kd.Q_elder' HOz2.out (Kd.R_base ho0) hb); replace HOz1 := mk (Kd.Q_elder' HOz1.out (Kd.R_base ho0) hb); replace HOz0 := mk (Kd.Q_elder' HOz0.out (Kd.R_base ho0) hb); replace HOz3 := mk (Kd.Q_elder' HOz3.out (Kd.R_base ho0) hb); replace BKz2 := mk (blk_below BKz2.out hb); replace BKz1 := mk (blk_below BKz1.out hb); replace BKz0 := mk (blk_below BKz0.out hb); replace BKz3 := mk (blk_below BKz3.out hb); replace HB := mk (below_step HB.out hb); (try clear hb); (try clear ho0)) | ((with_reducible refine gate_dst (N := 10) rfl ?_); refine box_event (by rfl) (N := 10) (by rfl) (cs := #[.int .i64 0, .int .i64 0, .int .i64 0, .slice none 0 0]) (t := 27) (by go_simp; done) ?_; intro gbz1 hg w91 hbox hb; replace HO_5 := mk (Kd.R_below HO_5.out hb); replace HOz2 := mk (Kd.Q_below HOz2.out hb); replace HOz1 := mk (Kd.Q_below HOz1.out hb); replace HOz0 := mk (Kd.Q_below HOz0.out hb); replace HOz3 := mk (Kd.Q_below HOz3.out hb); replace HOz8 := mk (Kd.R_below HOz8.out hb); have BKz4 := mk (hbox); have GEz4 := mk ((by rw [hg]; exact (below_size HB.out) : w.heap.size ≤ gbz1)); replace HB := mk (below_step HB.out hb); have NBz7 := mk ((by rw [hg]; exact Nat.ne_of_lt (blk_lt BKz2.out) : gbz4 ≠ gbz1)); replace BKz2 := mk (blk_below BKz2.out hb); have NBz8 := mk ((by rw [hg]; exact Nat.ne_of_lt (blk_lt BKz1.out) : gbz3 ≠ gbz1)); replace BKz1 := mk (blk_below BKz1.out hb); have NBz9 := mk ((by rw [hg]; exact Nat.ne_of_lt (blk_lt BKz0.out) : gbz2 ≠ gbz1)); replace BKz0 := mk (blk_below BKz0.out hb); have NBz10 := mk ((by rw [hg]; exact Nat.ne_of_lt (blk_lt BKz3.out) : gbz0 ≠ gbz1)); replace BKz3 := mk (blk_below BKz3.out hb); clear hb hbox hg; obtain ⟨hcz96_0, hcz96_1, hcz96_2, hcz96_3, hfz96_0, hfz96_1, hfz96_2, hfz96_3⟩ := c4 BKz4.out; obtain ⟨Ao97, co97, eo97⟩ := Kd.R_slice HOz8.out; subst eo97))
     have n0_ : Aside0 (Kd.R k47 47 ((((w91.setCell ⟨gbz1, 0, none⟩ (.int .i64 tz19)).setCell ⟨gbz1, 1, none⟩ (.int .i64 tz20)).setCell ⟨gbz1, 2, none⟩ (.int .i64 tz21)).setCell ⟨gbz1, 3, none⟩ (.slice Ao97 tz18.length co97)) w.heap.size (fun _ => True) (.slice Ao15 tz17.length co15) tz17) := ⟨by exact Kd.R_mono (Kd.R_far (p := ⟨gbz1, 3, none⟩) (Kd.R_far (p := ⟨gbz1, 2, none⟩) (Kd.R_far (p := ⟨gbz1, 1, none⟩) (Kd.R_far (p := ⟨gbz1, 0, none⟩) (Kd.R_types HO_5.out BKz4.out (by decide)) (fun _ hk => hk.2) (.int .i64 tz19)) (fun _ hk => hk.2) (.int .i64 tz20)) (fun _ hk => hk.2) (.int .i64 tz21)) (fun _ hk => hk.2) (.slice Ao97 tz18.length co97)) (fun _ hk => trivial)⟩
     have n1_ : Aside0 (Kd.Q (Kd.int .i64) 3 ((((w91.setCell ⟨gbz1, 0, none⟩ (.int .i64 tz19)).setCell ⟨gbz1, 1, none⟩ (.int .i64 tz20)).setCell ⟨gbz1, 2, none⟩ (.int .i64 tz21)).setCell ⟨gbz1, 3, none⟩ (.slice Ao97 tz18.length co97)) w.heap.size (fun k_ => some k_ ≠ (.slice Ao14 tz0.length co14 : Value).ownBlock ∧ some k_ ≠ (.slice Ao21 tz1.length co21 : Value).ownBlock ∧ some k_ ≠ (.slice Ao30 tz4.length co30 : Value).ownBlock ∧ some k_ ≠ (.slice Ao97 tz18.length co97 : Value).ownBlock) (.slice Ao12 tz2.length co12) tz2) := ⟨by exact Kd.Q_mono (Kd.Q_far (p := ⟨gbz1, 3, none⟩) (Kd.Q_far (p := ⟨gbz1, 2, none⟩) (Kd.Q_far (p := ⟨gbz1, 1, none⟩) (Kd.Q_far (p := ⟨gbz1, 0, none⟩) (Kd.Q_types HOz2.out BKz4.out (by decide)) (fun _ hk => hk.2) (.int .i64 tz19)) (fun _ hk => hk.2) (.int .i64 tz20)) (fun _ hk => hk.2) (.int .i64 tz21)) (fun _ hk => hk.2) (.slice Ao97 tz18.length co97)) (fun _ hk => ⟨hk.1.1.1, ⟨hk.1.1.2.1, ⟨hk.1.1.2.2, hk.1.2⟩⟩⟩)⟩
     have n2_ : Aside0 (Kd.Q (Kd.int .i64) 3 ((((w91.setCell ⟨gbz1, 0, none⟩ (.int .i64 tz19)).setCell ⟨gbz1, 1, none⟩ (.int .i64 tz20)).setCell ⟨gbz1, 2, none⟩ (.int .i64 tz21)).setCell ⟨gbz1, 3, none⟩ (.slice Ao97 tz18.length co97)) w.heap.size (fun k_ => some k_ ≠ (.slice Ao12 tz2.length co12 : Value).ownBlock ∧ some k_ ≠ (.slice Ao21 tz1.length co21 : Value).ownBlock ∧ some k_ ≠ (.slice Ao30 tz4.length co30 : Value).ownBlock ∧ some k_ ≠ (.slice Ao97 tz18.length co97 : Value).ownBlock) (.slice Ao14 tz0.length co14) tz0) := ⟨by exact Kd.Q_mono (Kd.Q_far (p := ⟨gbz1, 3, none⟩) (Kd.Q_far (p := ⟨gbz1, 2, none⟩) (Kd.Q_far (p := ⟨gbz1, 1, none⟩) (Kd.Q_far (p := ⟨gbz1, 0, none⟩) (Kd.Q_types HOz1.out BKz4.out (by decide)) (fun _ hk => hk.2) (.int .i64 tz19)) (fun _ hk => hk.2) (.int .i64 tz20)) (fun _ hk => hk.2) (.int .i64 tz21)) (fun _ hk => hk.2) (.slice Ao97 tz18.length co97)) (fun _ hk => ⟨hk.1.1.1, ⟨hk.1.1.2.1, ⟨hk.1.1.2.2, hk.1.2⟩⟩⟩)⟩
     have n3_ : Aside0 (Kd.Q (Kd.int .i64) 3 ((((w91.setCell ⟨gbz1, 0, none⟩ (.int .i64 tz19)).setCell ⟨gbz1, 1, none⟩ (.int .i64 tz20)).setCell ⟨gbz1, 2, none⟩ (.int .i64 tz21)).setCell ⟨gbz1, 3, none⟩ (.slice Ao97 tz18.length co97)) w.heap.size (fun k_ => some k_ ≠ (.slice Ao12 tz2.length co12 : Value).ownBlock ∧ some k_ ≠ (.slice Ao14 tz0.length co14 : Value).ownBlock ∧ some k_ ≠ (.slice Ao30 tz4.length co30 : Value).ownBlock ∧ some k_ ≠ (.slice Ao97 tz18.length co97 : Value).ownBlock) (.slice Ao21 tz1.length co21) tz1) := ⟨by exact Kd.Q_mono (Kd.Q_far (p := ⟨gbz1, 3, none⟩) (Kd.Q_far (p := ⟨gbz1, 2, none⟩) (Kd.Q_far (p := ⟨gbz1, 1, none⟩) (Kd.Q_far (p := ⟨gbz1, 0, none⟩) (Kd.Q_types HOz0.out BKz4.out (by decide)) (fun _ hk => hk.2) (.int .i64 tz19)) (fun _ hk => hk.2) (.int .i64 tz20)) (fun _ hk => hk.2) (.int .i64 tz21)) (fun _ hk => hk.2) (.slice Ao97 tz18.length co97)) (fun _ hk => ⟨hk.1.1.1, ⟨hk.1.1.2.1, ⟨hk.1.1.2.2, hk.1.2⟩⟩⟩)⟩
     have n4_ : Aside0 (Kd.Q (Kd.int .i64) 3 ((((w91.setCell ⟨gbz1, 0, none⟩ (.int .i64 tz19)).setCell ⟨gbz1, 1, none⟩ (.int .i64 tz20)).setCell ⟨gbz1, 2, none⟩ (.int .i64 tz21)).setCell ⟨gbz1, 3, none⟩ (.slice Ao97 tz18.length co97)) w.heap.size (fun k_ => some k_ ≠ (.slice Ao12 tz2.length co12 : Value).ownBlock ∧ some k_ ≠ (.slice Ao14 tz0.length co14 : Value).ownBlock ∧ some k_ ≠ (.slice Ao21 tz1.length co21 : Value).ownBlock ∧ some k_ ≠ (.slice Ao97 tz18.length co97 : Value).ownBlock) (.slice Ao30 tz4.length co30) tz4) := ⟨by exact Kd.Q_mono (Kd.Q_far (p := ⟨gbz1, 3, none⟩) (Kd.Q_far (p := ⟨gbz1, 2, none⟩) (Kd.Q_far (p := ⟨gbz1, 1, none⟩) (Kd.Q_far (p := ⟨gbz1, 0, none⟩) (Kd.Q_types HOz3.out BKz4.out (by decide)) (fun _ hk => hk.2) (.int .i64 tz19)) (fun _ hk => hk.2) (.int .i64 tz20)) (fun _ hk => hk.2) (.int .i64 tz21)) (fun _ hk => hk.2) (.slice Ao97 tz18.length co97)) (fun _ hk => ⟨hk.1.1.1, ⟨hk.1.1.2.1, ⟨hk.1.1.2.2, hk.1.2⟩⟩⟩)⟩
     have n5_ : Aside0 (Kd.R (Kd.int .i64) 3 ((((w91.setCell ⟨gbz1, 0, none⟩ (.int .i64 tz19)).setCell ⟨gbz1, 1, none⟩ (.int .i64 tz20)).setCell ⟨gbz1, 2, none⟩ (.int .i64 tz21)).setCell ⟨gbz1, 3, none⟩ (.slice Ao97 tz18.length co97)) w.heap.size (fun k_ => some k_ ≠ (.slice Ao12 tz2.length co12 : Value).ownBlock ∧ some k_ ≠ (.slice Ao14 tz0.length co14 : Value).ownBlock ∧ some k_ ≠ (.slice Ao21 tz1.length co21 : Value).ownBlock ∧ some k_ ≠ (.slice Ao30 tz4.length co30 : Value).ownBlock) (.slice Ao97 tz18.length co97) tz18) := ⟨by exact Kd.R_mono (Kd.R_far (p := ⟨gbz1, 3, none⟩) (Kd.R_far (p := ⟨gbz1, 2, none⟩) (Kd.R_far (p := ⟨gbz1, 1, none⟩) (Kd.R_far (p := ⟨gbz1, 0, none⟩) (Kd.R_types HOz8.out BKz4.out (by decide)) (fun _ hk => hk.2) (.int .i64 tz19)) (fun _ hk => hk.2) (.int .i64 tz20)) (fun _ hk => hk.2) (.int .i64 tz21)) (fun _ hk => hk.2) (.slice Ao97 tz18.length co97)) (fun _ hk => ⟨hk.1.1.1.1.2, ⟨hk.1.1.1.2, ⟨hk.1.1.2, hk.1.2⟩⟩⟩)⟩
     have n6_ : Aside0 (((((w91.setCell ⟨gbz1, 0, none⟩ (.int .i64 tz19)).setCell ⟨gbz1, 1, none⟩ (.int .i64 tz20)).setCell ⟨gbz1, 2, none⟩ (.int .i64 tz21)).setCell ⟨gbz1, 3, none⟩ (.slice Ao97 tz18.length co97)).heap[gbz4]? = some (.cells #[.int .i64 tz12, .int .i64 tz13, .int .i64 tz15, .slice Ao12 tz2.length co12] 27 (0, 0))) := ⟨by refine blk_far ?_ NBz7.out _; refine blk_far ?_ NBz7.out _; refine blk_far ?_ NBz7.out _; refine blk_far ?_ NBz7.out _; exact BKz2.out⟩
     have n7_ : Aside0 (((((w91.setCell ⟨gbz1, 0, none⟩ (.int .i64 tz19)).setCell ⟨gbz1, 1, none⟩ (.int .i64 tz20)).setCell ⟨gbz1, 2, none⟩ (.int .i64 tz21)).setCell ⟨gbz1, 3, none⟩ (.slice Ao97 tz18.length co97)).heap[gbz3]? = some (.cells #[.int .i64 tz6, .int .i64 tz8, .int .i64 tz9, .slice Ao14 tz0.length co14] 27 (0, 0))) := ⟨by refine blk_far ?_ NBz8.out _; refine blk_far ?_ NBz8.out _; refine blk_far ?_ NBz8.out _; refine blk_far ?_ NBz8.out _; exact BKz1.out⟩
     have n8_ : Aside0 (((((w91.setCell ⟨gbz1, 0, none⟩ (.int .i64 tz19)).setCell ⟨gbz1, 1, none⟩ (.int .i64 tz20)).setCell ⟨gbz1, 2, none⟩ (.int .i64 tz21)).setCell ⟨gbz1, 3, none⟩ (.slice Ao97 tz18.length co97)).heap[gbz2]? = some (.cells #[.int .i64 tz3, .int .i64 tz5, .int .i64 tz7, .slice Ao21 tz1.length co21] 27 (0, 0))) := ⟨by refine blk_far ?_ NBz9.out _; refine blk_far ?_ NBz9.out _; refine blk_far ?_ NBz9.out _; refine blk_far ?_ NBz9.out _; exact BKz0.out⟩
     have n9_ : Aside0 (((((w91.setCell ⟨gbz1, 0, none⟩ (.int .i64 tz19)).setCell ⟨gbz1, 1, none⟩ (.int .i64 tz20)).setCell ⟨gbz1, 2, none⟩ (.int .i64 tz21)).setCell ⟨gbz1, 3, none⟩ (.slice Ao97 tz18.length co97)).heap[gbz0]? = some (.cells #[.int .i64 tz10, .int .i64 tz11, .int .i64 tz14, .slice Ao30 tz4.length co30] 27 (0, 0))) := ⟨by refine blk_far ?_ NBz10.out _; refine blk_far ?_ NBz10.out _; refine blk_far ?_ NBz10.out _; refine blk_far ?_ NBz10.out _; exact BKz3.out⟩
     have n10_ : Aside0 (((((w91.setCell ⟨gbz1, 0, none⟩ (.int .i64 tz19)).setCell ⟨gbz1, 1, none⟩ (.int .i64 tz20)).setCell ⟨gbz1, 2, none⟩ (.int .i64 tz21)).setCell ⟨gbz1, 3, none⟩ (.slice Ao97 tz18.length co97)).heap[gbz1]? = some (.cells #[.int .i64 tz19, .int .i64 tz20, .int .i64 tz21, .slice Ao97 tz18.length co97] 27 (0, 0))) := ⟨by refine blk_put (cs := #[.int .i64 tz19, .int .i64 tz20, .int .i64 tz21, .slice none 0 0]) ?_ 3 _ rfl; refine blk_put (cs := #[.int .i64 tz19, .int .i64 tz20, .int .i64 0, .slice none 0 0]) ?_ 2 _ rfl; refine blk_put (cs := #[.int .i64 tz19, .int .i64 0, .int .i64 0, .slice none 0 0]) ?_ 1 _ rfl; refine blk_put (cs := #[.int .i64 0, .int .i64 0, .int .i64 0, .slice none 0 0]) ?_ 0 _ rfl; exact BKz4.out⟩
     have n11_ : Aside0 (Below w.heap.size w ((((w91.setCell ⟨gbz1, 0, none⟩ (.int .i64 tz19)).setCell ⟨gbz1, 1, none⟩ (.int .i64 tz20)).setCell ⟨gbz1, 2, none⟩ (.int .i64 tz21)).setCell ⟨gbz1, 3, none⟩ (.slice Ao97 tz18.length co97))) := ⟨by repeat (with_reducible first | exact HB.out | refine below_set ?_ GEz4.out)⟩
     (try clear HO_5)
     (try clear HOz2)
     (try clear HOz1)
     (try clear HOz0)
     (try clear HOz3)
     (try clear HOz8)
     (try clear BKz2)
     (try clear BKz1)
     (try clear BKz0)
     (try clear BKz3)
     (try clear BKz4)
     (try clear HB)
     generalize ((((w91.setCell ⟨gbz1, 0, none⟩ (.int .i64 tz19)).setCell ⟨gbz1, 1, none⟩ (.int .i64 tz20)).setCell ⟨gbz1, 2, none⟩ (.int .i64 tz21)).setCell ⟨gbz1, 3, none⟩ (.slice Ao97 tz18.length co97)) = w98 at n0_ n1_ n2_ n3_ n4_ n5_ n6_ n7_ n8_ n9_ n10_ n11_ ⊢
     revert n0_ n1_ n2_ n3_ n4_ n5_ n6_ n7_ n8_ n9_ n10_ n11_; intro HO_5 HOz2 HOz1 HOz0 HOz3 HOz8 BKz2 BKz1 BKz0 BKz3 BKz4 HB
     replace HO_5 := mk (Kd.R_drew HO_5.out)
     replace HOz2 := mk (Kd.Q_drew HOz2.out)
     replace HOz1 := mk (Kd.Q_drew HOz1.out)
     replace HOz0 := mk (Kd.Q_drew HOz0.out)
     replace HOz3 := mk (Kd.Q_drew HOz3.out)
     replace HOz8 := mk (Kd.R_drew HOz8.out)
     replace BKz2 := mk (blk_drew BKz2.out)
     replace BKz1 := mk (blk_drew BKz1.out)
     replace BKz0 := mk (blk_drew BKz0.out)
     replace BKz3 := mk (blk_drew BKz3.out)
     replace BKz4 := mk (blk_drew BKz4.out)
     replace HB := mk (below_drew1 HB.out)
     refine start_ (n := 16) (S := fun w' => w'.cell? ⟨gbz1, 0, none⟩ = some (.int .i64 tz19) ∧ w'.cell? ⟨gbz1, 1, none⟩ = some (.int .i64 tz20) ∧ w'.cell? ⟨gbz1, 2, none⟩ = some (.int .i64 tz21) ∧ w'.cell? ⟨gbz1, 3, none⟩ = some (.slice Ao97 tz18.length co97) ∧ w'.cell? ⟨gbz2, 0, none⟩ = some (.int .i64 tz3) ∧ w'.cell? ⟨gbz2, 1, none⟩ = some (.int .i64 tz5) ∧ w'.cell? ⟨gbz2, 2, none⟩ = some (.int .i64 tz7) ∧ w'.cell? ⟨gbz2, 3, none⟩ = some (.slice Ao21 tz1.length co21) ∧ w'.cell? ⟨gbz3, 0, none⟩ = some (.int .i64 tz6) ∧ w'.cell? ⟨gbz3, 1, none⟩ = some (.int .i64 tz8) ∧ w'.cell? ⟨gbz3, 2, none⟩ = some (.int .i64 tz9) ∧ w'.cell? ⟨gbz3, 3, none⟩ = some (.slice Ao14 tz0.length co14) ∧ w'.cell? ⟨gbz4, 0, none⟩ = some (.int .i64 tz12) ∧ w'.cell? ⟨gbz4, 1, none⟩ = some (.int .i64 tz13) ∧ w'.cell? ⟨gbz4, 2, none⟩ = some (.int .i64 tz15) ∧ w'.cell? ⟨gbz4, 3, none⟩ = some (.slice Ao12 tz2.length co12)) (ds := []) #[false, false, false, false, false, false, false, false, false, false, false, false, false, false, false, false] (by kernel_rfl) rfl rfl ⟨blk_cell BKz4.out 0, blk_cell BKz4.out 1, blk_cell BKz4.out 2, blk_cell BKz4.out 3, blk_cell BKz0.out 0, blk_cell BKz0.out 1, blk_cell BKz0.out 2, blk_cell BKz0.out 3, blk_cell BKz1.out 0, blk_cell BKz1.out 1, blk_cell BKz1.out 2, blk_cell BKz1.out 3, blk_cell BKz2.out 0, blk_cell BKz2.out 1, blk_cell BKz2.out 2, blk_cell BKz2.out 3⟩ (fun hHeld => ?_); refine with_tabW laws_FnPatchImageTwice.tab9 laws_FnPatchImageTwice.bits9 (fun HT_ HW_ => ?_)
     generalize w98.drew = w99 at HO_5 HOz2 HOz1 HOz0 HOz3 HOz8 BKz2 BKz1 BKz0 BKz3 BKz4 HB hHeld ⊢
     refine pu 0 63 ?_ ?_ rfl rfl (any_of HT_.out (by kernel_rfl)) (Or.inl ⟨by rfl, ?_⟩) ?_ ?_
     rotate_left 2
     ·intro w'
      go_simp
      with_reducible rfl
     ·simp only [seval]
      rfl
     refine pu 1 64 ?_ ?_ rfl rfl (any_of HT_.out (by kernel_rfl)) (Or.inl ⟨by rfl, ?_⟩) ?_ ?_
     rotate_left 2
     ·intro w'
      go_simp
      with_reducible rfl
     ·simp only [seval]
      rfl
     refine tk 2 65 ?_ ?_ rfl rfl (take_ofW HT_.out HW_.out (by kernel_rfl)) (Or.inl ⟨by rfl, ?_⟩) hHeld ?_ ?_
     rotate_left 2
     ·rintro w' ⟨s0, s1, s2, s3, s4, s5, s6, s7, s8, s9, s10, s11, s12, s13, s14, s15⟩
      go_simp
      with_reducible rfl
     ·simp only [seval]
      rfl
     refine tk 3 66 ?_ ?_ rfl rfl (take_ofW HT_.out HW_.out (by kernel_rfl)) (Or.inl ⟨by rfl, ?_⟩) hHeld ?_ ?_
     rotate_left 2
     ·rintro w' ⟨s0, s1, s2, s3, s4, s5, s6, s7, s8, s9, s10, s11, s12, s13, s14, s15⟩
      go_simp
      with_reducible rfl
     ·simp only [seval]
      rfl
     refine one_ (i := 4) (N := some 67) #[true, true, true, true, true, false, false, false, false, false, false, false, false, false, false, false] rfl rfl (one_of HT_.out (by kernel_rfl)) (by decide) (fun K hK => ?_)
     refine goes_ Try.func26 (by kernel_rfl) rfl #[.agg #[.int .i64 tz19, .int .i64 tz20, .int .i64 tz21, .slice Ao97 tz18.length co97], .agg #[.int .i64 tz3, .int .i64 tz5, .int .i64 tz7, .slice Ao21 tz1.length co21]] (by rfl) rfl rfl (by (try simp only [bitvec_to_nat]); rfl) ?_
     with_reducible refine (laws_equalImage.calls kj5 tz19 tz20 tz21 _ _ tz18 tz3 tz5 tz7 _ _ tz1 true _ ?side1 ?side2 ?side3 ?side4 A79.out).mono ?_
     (case side1 => repeat (exact (Kd.R_reads' HOz8.out).2.2))
     (case side2 => exact (Kd.R_reads' HOz8.out).2.1)
     (case side3 => repeat (exact (Kd.Q_reads' HOz0.out).2.2))
     (case side4 => exact (Kd.Q_reads' HOz0.out).2.1)
     rintro e w100 ⟨rfl, hb⟩
     refine ⟨_, rfl, ?_⟩
     replace HO_5 := mk (Kd.R_below HO_5.out hb)
     replace HOz2 := mk (Kd.Q_below HOz2.out hb)
     replace HOz1 := mk (Kd.Q_below HOz1.out hb)
     replace HOz0 := mk (Kd.Q_below HOz0.out hb)
     replace HOz3 := mk (Kd.Q_below HOz3.out hb)
     replace HOz8 := mk (Kd.R_below HOz8.out hb)
     replace BKz2 := mk (blk_below BKz2.out hb)
     replace BKz1 := mk (blk_below BKz1.out hb)
     replace BKz0 := mk (blk_below BKz0.out hb)
     replace BKz3 := mk (blk_below BKz3.out hb)
     replace BKz4 := mk (blk_below BKz4.out hb)
     replace HB := mk (below_step HB.out hb)
     (try clear hb)
     refine hK.out _ _ ⟨blk_cell BKz4.out 0, blk_cell BKz4.out 1, blk_cell BKz4.out 2, blk_cell BKz4.out 3, blk_cell BKz0.out 0, blk_cell BKz0.out 1, blk_cell BKz0.out 2, blk_cell BKz0.out 3, blk_cell BKz1.out 0, blk_cell BKz1.out 1, blk_cell BKz1.out 2, blk_cell BKz1.out 3, blk_cell BKz2.out 0, blk_cell BKz2.out 1, blk_cell BKz2.out 2, blk_cell BKz2.out 3⟩ (fun hHeld => ?_)
     clear hK K
     refine norm_ (a' := ?_) ?_ ?_
     rotate_left
     ·show Act.put _ (some 67) _ = _
      simp only [seval]
      rfl
     refine pu 5 68 ?_ ?_ rfl rfl (any_of HT_.out (by kernel_rfl)) (Or.inl ⟨by rfl, ?_⟩) ?_ ?_
     rotate_left 2
     ·intro w'
      go_simp
      with_reducible rfl
     ·simp only [seval]
      rfl
     refine pu 6 69 ?_ ?_ rfl rfl (any_of HT_.out (by kernel_rfl)) (Or.inl ⟨by rfl, ?_⟩) ?_ ?_
     rotate_left 2
     ·intro w'
      go_simp
      with_reducible rfl
     ·simp only [seval]
      rfl
     refine tk 7 70 ?_ ?_ rfl rfl (take_ofW HT_.out HW_.out (by kernel_rfl)) (Or.inl ⟨by rfl, ?_⟩) hHeld ?_ ?_
     rotate_left 2
     ·rintro w' ⟨s0, s1, s2, s3, s4, s5, s6, s7, s8, s9, s10, s11, s12, s13, s14, s15⟩
      go_simp
      with_reducible rfl
     ·simp only [seval]
      rfl
     refine tk 8 71 ?_ ?_ rfl rfl (take_ofW HT_.out HW_.out (by kernel_rfl)) (Or.inl ⟨by rfl, ?_⟩) hHeld ?_ ?_
     rotate_left 2
     ·rintro w' ⟨s0, s1, s2, s3, s4, s5, s6, s7, s8, s9, s10, s11, s12, s13, s14, s15⟩
      go_simp
      with_reducible rfl
     ·simp only [seval]
      rfl
     refine tk 10 73 ?_ ?_ rfl rfl (take_ofW HT_.out HW_.out (by kernel_rfl)) (Or.inl ⟨by rfl, ?_⟩) hHeld ?_ ?_
     rotate_left 2
     ·rintro w' ⟨s0, s1, s2, s3, s4, s5, s6, s7, s8, s9, s10, s11, s12, s13, s14, s15⟩
      go_simp
      with_reducible rfl
     ·simp only [seval]
      rfl
     refine tk 11 74 ?_ ?_ rfl rfl (take_ofW HT_.out HW_.out (by kernel_rfl)) (Or.inl ⟨by rfl, ?_⟩) hHeld ?_ ?_
     rotate_left 2
     ·rintro w' ⟨s0, s1, s2, s3, s4, s5, s6, s7, s8, s9, s10, s11, s12, s13, s14, s15⟩
      go_simp
      with_reducible rfl
     ·simp only [seval]
      rfl
     refine one_ (i := 9) (N := some 72) #[true, true, true, true, true, true, true, true, true, true, true, true, false, false, false, false] rfl rfl (one_of HT_.out (by kernel_rfl)) (by decide) (fun K hK => ?_)
     refine goes_ Try.func23 (by kernel_rfl) rfl #[.agg #[.int .i64 tz3, .int .i64 tz5, .int .i64 tz7, .slice Ao21 tz1.length co21], .agg #[.int .i64 tz6, .int .i64 tz8, .int .i64 tz9, .slice Ao14 tz0.length co14]] (by rfl) rfl rfl (by (try simp only [bitvec_to_nat]); rfl) ?_
     with_reducible refine (impl_GapOf.calls kj5 tz3 tz5 tz7 _ _ tz1 tz6 tz8 tz9 _ _ tz0 tz24 _ ?side1 ?side2 ?side3 ?side4 A81.out).mono ?_
     (case side1 => repeat (exact (Kd.Q_reads' HOz0.out).2.2))
     (case side2 => exact (Kd.Q_reads' HOz0.out).2.1)
     (case side3 => repeat (exact (Kd.Q_reads' HOz1.out).2.2))
     (case side4 => exact (Kd.Q_reads' HOz1.out).2.1)
     rintro e w101 ⟨rfl, hb⟩
     refine ⟨_, rfl, ?_⟩
     replace HO_5 := mk (Kd.R_below HO_5.out hb)
     replace HOz2 := mk (Kd.Q_below HOz2.out hb)
     replace HOz1 := mk (Kd.Q_below HOz1.out hb)
     replace HOz0 := mk (Kd.Q_below HOz0.out hb)
     replace HOz3 := mk (Kd.Q_below HOz3.out hb)
     replace HOz8 := mk (Kd.R_below HOz8.out hb)
     replace BKz2 := mk (blk_below BKz2.out hb)
     replace BKz1 := mk (blk_below BKz1.out hb)
     replace BKz0 := mk (blk_below BKz0.out hb)
     replace BKz3 := mk (blk_below BKz3.out hb)
     replace BKz4 := mk (blk_below BKz4.out hb)
     replace HB := mk (below_step HB.out hb)
     (try clear hb)
     refine hK.out _ _ ⟨blk_cell BKz4.out 0, blk_cell BKz4.out 1, blk_cell BKz4.out 2, blk_cell BKz4.out 3, blk_cell BKz0.out 0, blk_cell BKz0.out 1, blk_cell BKz0.out 2, blk_cell BKz0.out 3, blk_cell BKz1.out 0, blk_cell BKz1.out 1, blk_cell BKz1.out 2, blk_cell BKz1.out 3, blk_cell BKz2.out 0, blk_cell BKz2.out 1, blk_cell BKz2.out 2, blk_cell BKz2.out 3⟩ (fun hHeld => ?_)
     clear hK K
     refine norm_ (a' := ?_) ?_ ?_
     rotate_left
     ·show Act.put _ (some 72) _ = _
      simp only [seval]
      rfl
     refine one_ (i := 12) (N := some 75) #[true, true, true, true, true, true, true, true, true, true, true, true, true, false, false, false] rfl rfl (one_of HT_.out (by kernel_rfl)) (by decide) (fun K hK => ?_)
     refine goes_ Try.func23 (by kernel_rfl) rfl #[.agg #[.int .i64 tz12, .int .i64 tz13, .int .i64 tz15, .slice Ao12 tz2.length co12], .agg #[.int .i64 tz6, .int .i64 tz8, .int .i64 tz9, .slice Ao14 tz0.length co14]] (by rfl) rfl rfl (by (try simp only [bitvec_to_nat]); rfl) ?_
     with_reducible refine (impl_GapOf.calls kj5 tz12 tz13 tz15 _ _ tz2 tz6 tz8 tz9 _ _ tz0 tz23 _ ?side1 ?side2 ?side3 ?side4 A82.out).mono ?_
     (case side1 => repeat (exact (Kd.Q_reads' HOz2.out).2.2))
     (case side2 => exact (Kd.Q_reads' HOz2.out).2.1)
     (case side3 => repeat (exact (Kd.Q_reads' HOz1.out).2.2))
     (case side4 => exact (Kd.Q_reads' HOz1.out).2.1)
     rintro e w102 ⟨rfl, hb⟩
     refine ⟨_, rfl, ?_⟩
     replace HO_5 := mk (Kd.R_below HO_5.out hb)
     replace HOz2 := mk (Kd.Q_below HOz2.out hb)
     replace HOz1 := mk (Kd.Q_below HOz1.out hb)
     replace HOz0 := mk (Kd.Q_below HOz0.out hb)
     replace HOz3 := mk (Kd.Q_below HOz3.out hb)
     replace HOz8 := mk (Kd.R_below HOz8.out hb)
     replace BKz2 := mk (blk_below BKz2.out hb)
     replace BKz1 := mk (blk_below BKz1.out hb)
     replace BKz0 := mk (blk_below BKz0.out hb)
     replace BKz3 := mk (blk_below BKz3.out hb)
     replace BKz4 := mk (blk_below BKz4.out hb)
     replace HB := mk (below_step HB.out hb)
     (try clear hb)
     refine hK.out _ _ ⟨blk_cell BKz4.out 0, blk_cell BKz4.out 1, blk_cell BKz4.out 2, blk_cell BKz4.out 3, blk_cell BKz0.out 0, blk_cell BKz0.out 1, blk_cell BKz0.out 2, blk_cell BKz0.out 3, blk_cell BKz1.out 0, blk_cell BKz1.out 1, blk_cell BKz1.out 2, blk_cell BKz1.out 3, blk_cell BKz2.out 0, blk_cell BKz2.out 1, blk_cell BKz2.out 2, blk_cell BKz2.out 3⟩ (fun hHeld => ?_)
     clear hK K
     refine norm_ (a' := ?_) ?_ ?_
     rotate_left
     ·show Act.put _ (some 75) _ = _
      simp only [seval]
      rfl
     refine pu 13 76 ?_ ?_ rfl rfl (any_of HT_.out (by kernel_rfl)) (Or.inl ⟨by rfl, ?_⟩) ?_ ?_
     rotate_left 2
     ·intro w'
      go_simp
      with_reducible rfl
     ·simp only [seval]
      rfl
     refine pu 14 77 ?_ ?_ rfl rfl (any_of HT_.out (by kernel_rfl)) (Or.inl ⟨by rfl, ?_⟩) ?_ ?_
     rotate_left 2
     ·intro w'
      go_simp
      with_reducible rfl
     ·simp only [seval]
      rfl
     refine pu 15 2 ?_ ?_ rfl rfl (any_of HT_.out (by kernel_rfl)) (Or.inl ⟨by rfl, ?_⟩) ?_ ?_
     rotate_left 2
     ·intro w'
      go_simp
      with_reducible rfl
     ·simp only [seval]
      rfl
     refine done_ (done_of HT_.out (by kernel_rfl)) ?_
     try go_wp2
     go_ret
     exact ⟨by rfl, by exact HB.out⟩
    replace c80 := Bool.eq_false_iff.mpr c80
    subst c80
    have H1 : (some false) = some r := by rw [if_neg (show ¬ (false = true) by decide)] at H; exact H
    clear H
    have H := H1
    clear H1
    exact absurd ((Option.some.inj H).trans HRT.out) (by decide)
   replace c78 := Bool.eq_false_iff.mpr c78
   subst c78
   have H1 : (some false) = some r := by rw [if_neg (show ¬ (false = true) by decide)] at H; exact H
   clear H
   have H := H1
   clear H1
   exact absurd ((Option.some.inj H).trans HRT.out) (by decide)

def laws_FnPatchImageTwice.Pure : Prop := ∀ (l0 : List Int), l0.length ≤ maxLen → l0.length * 1 ≤ 140737488351232 → (∀ x ∈ l0, (Lit.int .u8 x).wf = true) → ∃ k, laws_FnPatchImageTwice.f k l0 = some true
theorem laws_FnPatchImageTwice.walk (P : laws_FnPatchImageTwice.Pure) (a0 : Option Addr) (len0 cap0 : Nat) (z0 : List Int) (w : World) (w0 : (a0 = none ∧ len0 = 0 ∧ cap0 = 0 ∧ z0 = []) ∨ ∃ x, a0 = some x ∧ len0 ≤ cap0 ∧ cap0 ≤ maxLen ∧ z0.length = cap0 ∧ (∀ i, i < z0.length → w.cell? (x.add i) = some (.int .u8 (z0.getD i 0))) ∧ ∀ n ∈ z0, (Lit.int .u8 n).wf = true) (y0 : len0 * 1 ≤ 140737488351232) :
  Calls Try.prog 16 #[.slice a0 len0 cap0] w fun e w' => e = .returned (.bool true) ∧ Below w.heap.size w w' := by
 obtain ⟨l0, rfl, hr0, hm0, hw0, hc0⟩ := ReadsInt.ofRowC w0
 obtain ⟨k, h⟩ := P l0 hm0 y0 hw0
 refine (laws_FnPatchImageTwice.calls k _ _ l0 true w (Kd.C_of_reads (d := (0 : Int)) (h1 := fun _ => rfl) hr0) hc0 h rfl).mono ?_
 rintro e w' ⟨rfl, hd⟩
 exact ⟨rfl, hd⟩

end Go.Proofs.Ytnofkbbcbpjhfaa.Q

/- A pixel's numbers read out of an image that is valid. -/
namespace Go.Proofs.Ytnofkbbcbpjhfaa.Q
open Go.RowKit Go.Proofs.YtnofkbbcbpjhfaaW.PrintWords Go.Proofs.YtnofkbbcbpjhfaaW.PrintLast Go.Proofs.YtnofkbbcbpjhfaaW.PrintMore
attribute [local go_sem] max2_int min2_int max_two min_two max_three min_three max_four min_four
set_option linter.unusedVariables false
set_option linter.unusedSimpArgs false
open Go.Proofs.Ytnofkbbcbpjhfaa.Pure

def pxAt (a p : Int) (d : List Int) (x y : Nat) : List Int := pixT d (pixJ a p x y) p
end Go.Proofs.Ytnofkbbcbpjhfaa.Q

/- Images as pixels: lists of numbers cut into equal parts. -/
namespace Go.Proofs.Ytnofkbbcbpjhfaa.Pure
open Go.RowKit Go.Proofs.Ytnofkbbcbpjhfaa.Q Go.Proofs.YtnofkbbcbpjhfaaW.PrintWords Go.Proofs.YtnofkbbcbpjhfaaW.PrintLast Go.Proofs.YtnofkbbcbpjhfaaW.PrintMore
set_option linter.unusedVariables false
set_option linter.unusedSimpArgs false

def nx (n : Nat) (d : List Int) (i : Nat) : List Int := (d.drop (i * n)).take n
theorem nx_length {n m : Nat} {d : List Int} (hd : d.length = m * n) {i : Nat} (hi : i < m) : (nx n d i).length = n := by
 unfold nx
 have h : (i + 1) * n ≤ m * n := Nat.mul_le_mul_right n hi
 rw [Nat.add_mul, Nat.one_mul] at h
 rw [List.length_take, List.length_drop, hd]
 omega
theorem fm_length (f : Nat → List Int) (n : Nat) : ∀ m, (∀ i, i < m → (f i).length = n) → ((List.range m).flatMap f).length = m * n := by
 intro m
 induction m with
 | zero => intro _; simp
 | succ m ih =>
  intro h
  rw [List.range_succ, List.flatMap_append, List.length_append, ih (fun i hi => h i (by omega))]
  simp [h m (by omega), Nat.add_mul]
theorem fm_get (f : Nat → List Int) (n : Nat) : ∀ m, (∀ i, i < m → (f i).length = n) → ∀ i, i < m → nx n ((List.range m).flatMap f) i = f i := by
 intro m
 induction m with
 | zero => intro _ i hi; omega
 | succ m ih =>
  intro h i hi
  have hl := fm_length f n m (fun i hi => h i (by omega))
  rw [List.range_succ, List.flatMap_append]
  unfold nx
  by_cases c : i < m
  ·have h1 : (i + 1) * n ≤ m * n := Nat.mul_le_mul_right n c
   rw [Nat.add_mul, Nat.one_mul] at h1
   rw [List.drop_append_of_le_length (by omega), List.take_append_of_le_length (by rw [List.length_drop]; omega)]
   exact ih (fun i hi => h i (by omega)) i c
  ·have : i = m := by omega
   subst this
   rw [← hl, List.drop_left]
   simp only [List.flatMap_cons, List.flatMap_nil, List.append_nil]
   exact List.take_of_length_le (by rw [h i (by omega)]; exact Nat.le_refl _)
theorem fm_cut (n : Nat) : ∀ (m : Nat) (d : List Int), d.length = m * n → (List.range m).flatMap (nx n d) = d := by
 intro m
 induction m with
 | zero => intro d hd; simp at hd; simp [hd]
 | succ m ih =>
  intro d hd
  rw [Nat.add_mul, Nat.one_mul] at hd
  have h1 : (List.range m).flatMap (nx n d) = (List.range m).flatMap (nx n (d.take (m * n))) := by
   rw [List.flatMap_def, List.flatMap_def]
   congr 1
   refine List.map_congr_left (fun i hi => ?_)
   have hi' := List.mem_range.1 hi
   have h1 : (i + 1) * n ≤ m * n := Nat.mul_le_mul_right n hi'
   rw [Nat.add_mul, Nat.one_mul] at h1
   unfold nx
   rw [List.drop_take, List.take_take, Nat.min_eq_left (by omega)]
  rw [List.range_succ, List.flatMap_append, h1, ih _ (by rw [List.length_take]; omega)]
  simp only [List.flatMap_cons, List.flatMap_nil, List.append_nil]
  unfold nx
  rw [List.take_of_length_le (l := d.drop (m * n)) (by rw [List.length_drop]; omega), List.take_append_drop]
theorem ext_nx {n m : Nat} {d e : List Int} (hd : d.length = m * n) (he : e.length = m * n) (h : ∀ i, i < m → nx n d i = nx n e i) : d = e := by
 rw [← fm_cut n m d hd, ← fm_cut n m e he, List.flatMap_def, List.flatMap_def]
 congr 1
 exact List.map_congr_left (fun i hi => h i (List.mem_range.1 hi))
theorem imgD_congr {f g : Nat → Nat → List Int} {a b : Nat} (h : ∀ x y, x < a → y < b → f x y = g x y) : imgD f a b = imgD g a b := by
 unfold imgD rowD
 rw [List.flatMap_def, List.flatMap_def]
 congr 1
 refine List.map_congr_left (fun y hy => ?_)
 rw [List.flatMap_def, List.flatMap_def]
 congr 1
 exact List.map_congr_left (fun x hx => h x y (List.mem_range.1 hx) (List.mem_range.1 hy))
theorem rowD_length {px : Nat → Nat → List Int} {a n y : Nat} (h : ∀ x, x < a → (px x y).length = n) : (rowD px a y).length = a * n := fm_length _ n a h
theorem imgD_length {px : Nat → Nat → List Int} {a b n : Nat} (h : ∀ x y, x < a → y < b → (px x y).length = n) : (imgD px a b).length = (b * a) * n := by
 rw [Nat.mul_assoc]
 exact fm_length _ (a * n) b (fun y hy => rowD_length (fun x hx => h x y hx hy))
theorem nx_imgD {px : Nat → Nat → List Int} {a b n : Nat} (h : ∀ x y, x < a → y < b → (px x y).length = n) {x y : Nat} (hx : x < a) (hy : y < b) : nx n (imgD px a b) (y * a + x) = px x y := by
 have h1 := fm_get (rowD px a) (a * n) b (fun y hy => rowD_length (fun x hx => h x y hx hy)) y hy
 have h2 := fm_get (fun x => px x y) n a (fun x hx => h x y hx hy) x hx
 have h3 : (x + 1) * n ≤ a * n := Nat.mul_le_mul_right n hx
 rw [Nat.add_mul, Nat.one_mul] at h3
 show nx n ((List.range b).flatMap (rowD px a)) (y * a + x) = px x y
 rw [← h2]
 show _ = nx n (rowD px a y) x
 rw [← h1]
 unfold nx
 rw [List.drop_take, List.take_take, Nat.min_eq_left (by omega), List.drop_drop, Nat.add_mul, Nat.mul_assoc]
theorem lin_lt {a b x y : Nat} (hx : x < a) (hy : y < b) : y * a + x < b * a := by
 have : (y + 1) * a ≤ b * a := Nat.mul_le_mul_right a hy
 rw [Nat.add_mul, Nat.one_mul] at this
 omega
theorem lin_ne {a x y x' y' : Nat} (hx : x < a) (hx' : x' < a) (h : y * a + x = y' * a + x') : x = x' ∧ y = y' := by
 have ha : 0 < a := by omega
 have e1 := congrArg (· % a) h
 have e2 := congrArg (· / a) h
 simp only [Nat.mul_comm _ a, Nat.mul_add_mod, Nat.mul_add_div ha, Nat.mod_eq_of_lt hx, Nat.mod_eq_of_lt hx', Nat.div_eq_of_lt hx, Nat.div_eq_of_lt hx', Nat.add_zero] at e1 e2
 exact ⟨e1, e2⟩
theorem lin_of {a b i : Nat} (h : i < b * a) : i % a < a ∧ i / a < b ∧ (i / a) * a + i % a = i := by
 have ha : 0 < a := by
  rcases Nat.eq_zero_or_pos a with rfl | h'
  ·simp at h
  ·exact h'
 refine ⟨Nat.mod_lt _ ha, (Nat.div_lt_iff_lt_mul ha).2 h, ?_⟩
 rw [Nat.mul_comm]; exact Nat.div_add_mod i a
theorem ext_img {n a b : Nat} {d e : List Int} (hd : d.length = (b * a) * n) (he : e.length = (b * a) * n) (h : ∀ x y, x < a → y < b → nx n d (y * a + x) = nx n e (y * a + x)) : d = e := by
 refine ext_nx hd he (fun i hi => ?_)
 obtain ⟨h1, h2, h3⟩ := lin_of hi
 rw [← h3]
 exact h _ _ h1 h2
theorem nx_laid {n m : Nat} {d ys : List Int} (hd : d.length = m * n) (hy : ys.length = n) {j : Nat} (hj : j < m) {i : Nat} (hi : i < m) : nx n (laidOver d (j * n) ys) i = if i = j then ys else nx n d i := by
 have hj1 : (j + 1) * n ≤ m * n := Nat.mul_le_mul_right n hj
 have hi1 : (i + 1) * n ≤ m * n := Nat.mul_le_mul_right n hi
 rw [Nat.add_mul, Nat.one_mul] at hj1 hi1
 unfold nx laidOver
 have hlt : (d.take (j * n)).length = j * n := by rw [List.length_take]; omega
 by_cases c : i = j
 ·subst c
  rw [if_pos rfl]
  have e1 : (d.take (i * n) ++ (ys ++ d.drop (i * n + ys.length))).drop (i * n) = ys ++ d.drop (i * n + ys.length) := by
   rw [List.drop_append, List.drop_eq_nil_of_le (by omega), hlt, Nat.sub_self, List.drop_zero, List.nil_append]
  rw [e1, ← hy, List.take_left]
 ·rw [if_neg c]
  by_cases c2 : i < j
  ·have h1 : (i + 1) * n ≤ j * n := Nat.mul_le_mul_right n c2
   rw [Nat.add_mul, Nat.one_mul] at h1
   rw [List.drop_append_of_le_length (by omega), List.take_append_of_le_length (by rw [List.length_drop]; omega), List.drop_take, List.take_take, Nat.min_eq_left (by omega)]
  ·have h1 : (j + 1) * n ≤ i * n := Nat.mul_le_mul_right n (by omega)
   rw [Nat.add_mul, Nat.one_mul] at h1
   rw [← List.append_assoc, List.drop_append, List.drop_eq_nil_of_le (by rw [List.length_append, hlt, hy]; omega), List.nil_append, List.drop_drop, List.length_append, hlt, hy]
   congr 2
   omega
theorem nat_of {a b p : Int} {d : List Int} (hv : validI a b p d = true) : ∃ an bn pn : Nat, a = an ∧ b = bn ∧ p = pn ∧ 1 ≤ an ∧ an ≤ 16 ∧ 1 ≤ bn ∧ bn ≤ 16 ∧ 1 ≤ pn ∧ pn ≤ 4 ∧ d.length = (bn * an) * pn := by
 obtain ⟨hs, hl, _⟩ := (validI_iff a b p d).1 hv
 obtain ⟨an, rfl⟩ := Int.eq_ofNat_of_zero_le (show 0 ≤ a by omega)
 obtain ⟨bn, rfl⟩ := Int.eq_ofNat_of_zero_le (show 0 ≤ b by omega)
 obtain ⟨pn, rfl⟩ := Int.eq_ofNat_of_zero_le (show 0 ≤ p by omega)
 refine ⟨an, bn, pn, rfl, rfl, rfl, by omega, by omega, by omega, by omega, by omega, by omega, ?_⟩
 have : (d.length : Int) = ((an * bn * pn : Nat) : Int) := by rw [hl]; push_cast; rfl
 rw [Nat.mul_comm bn an]
 exact Int.ofNat.inj this
theorem small {an bn pn : Nat} (h1 : an ≤ 16) (h2 : bn ≤ 16) (h3 : pn ≤ 4) : (bn * an) * pn ≤ 1024 := by
 have := Nat.mul_le_mul (Nat.mul_le_mul h2 h1) h3
 omega
theorem pixJ_nat {an bn pn x y : Nat} (h1 : an ≤ 16) (h2 : bn ≤ 16) (h3 : pn ≤ 4) (hx : x < an) (hy : y < bn) : pixJ an pn x y = (((y * an + x) * pn : Nat) : Int) ∧ (y * an + x) * pn + pn ≤ (bn * an) * pn := by
 have hl := lin_lt hx hy
 have hm : (y * an + x + 1) * pn ≤ (bn * an) * pn := Nat.mul_le_mul_right pn hl
 rw [Nat.add_mul, Nat.one_mul] at hm
 have hs := small h1 h2 h3
 have hya : y * an ≤ 16 * 16 := Nat.mul_le_mul (by omega) (by omega)
 refine ⟨?_, hm⟩
 unfold pixJ
 have e1 : ((y : Int) * (an : Int)) = ((y * an : Nat) : Int) := by push_cast; rfl
 rw [e1, w64 (x := ((y * an : Nat) : Int)) (by omega) (by omega)]
 have e2 : ((y * an : Nat) : Int) + (x : Int) = ((y * an + x : Nat) : Int) := by push_cast; rfl
 rw [e2, w64 (x := ((y * an + x : Nat) : Int)) (by omega) (by omega)]
 have e3 : ((y * an + x : Nat) : Int) * (pn : Int) = (((y * an + x) * pn : Nat) : Int) := by push_cast; rfl
 rw [e3, w64 (by omega) (by omega)]
theorem pxAt_nat {an bn pn x y : Nat} (h1 : an ≤ 16) (h2 : bn ≤ 16) (h3 : pn ≤ 4) (hx : x < an) (hy : y < bn) (d : List Int) : pxAt an pn d x y = nx pn d (y * an + x) := by
 obtain ⟨hj, hm⟩ := pixJ_nat h1 h2 h3 hx hy
 have hs := small h1 h2 h3
 unfold pxAt pixT nx
 rw [hj, w64 (by omega) (by omega)]
 have : ((((y * an + x) * pn : Nat) : Int) + (pn : Int)).toNat = (y * an + x) * pn + pn := by omega
 rw [this, Int.toNat_natCast, List.drop_take]
 congr 1
 omega

/- What the reference does with pixels: reads, writes, parts and pastes. -/

theorem ev_run {σ ρ : Type} (n : Nat) (L : Nat → Nat → σ → Option ρ) (E : σ → Nat → Option ρ) (Inv : Nat → σ → Prop)
  (step : ∀ i s, i < n → Inv i s → ∃ s', Inv (i + 1) s' ∧ ∀ r, Ev (fun k => L k (i + 1) s') r → Ev (fun k => L k i s) r)
  (last : ∀ s, Inv n s → ∀ r, Ev (E s) r → Ev (fun k => L k n s) r) :
  ∀ d i s, i + d = n → Inv i s → ∃ s', Inv n s' ∧ ∀ r, Ev (E s') r → Ev (fun k => L k i s) r := by
 intro d
 induction d with
 | zero =>
  intro i s hi hinv
  have : i = n := by omega
  subst this
  exact ⟨s, hinv, last s hinv⟩
 | succ d ih =>
  intro i s hi hinv
  obtain ⟨s1, h1, h2⟩ := step i s (by omega) hinv
  obtain ⟨s2, h3, h4⟩ := ih (i + 1) s1 (by omega) h1
  exact ⟨s2, h3, fun r hr => h2 r (h4 r hr)⟩
theorem copyInts_px (l : List Int) (hl : l.length ≤ 1000000) : spec_copyInts.f l = some l := by
 unfold spec_copyInts.f
 simp only [Option.bind_some]
 rw [if_pos (by simp; omega)]
 simp
theorem laid_set (d ys : List Int) (j i : Nat) (hi : i < ys.length) (hj : j + ys.length ≤ d.length) : (laidOver d j (ys.take i)).set (j + i) ys[i] = laidOver d j (ys.take (i + 1)) := by
 have h1 : (ys.take i).length = i := by rw [List.length_take]; omega
 have h2 : (ys.take (i + 1)).length = i + 1 := by rw [List.length_take]; omega
 have h3 : (d.take j).length = j := by rw [List.length_take]; omega
 unfold laidOver
 rw [h1, h2, List.set_append_right _ _ (by omega), h3, Nat.add_sub_cancel_left, List.set_append_right _ _ (by omega), h1, Nat.sub_self, List.drop_eq_getElem_cons (show j + i < d.length by omega), List.set_cons_zero, List.take_succ_eq_append_getElem hi, List.append_assoc]
 rfl
theorem setPixel_ev {an bn pn x y : Nat} (h1 : an ≤ 16) (h2 : bn ≤ 16) (h3 : pn ≤ 4) (hx : x < an) (hy : y < bn) (d ys : List Int) (hd : d.length = (bn * an) * pn) (hys : ys.length = pn) :
  Ev (fun k => spec_setPixel.f k an bn pn d x y ys) (laidOver d ((y * an + x) * pn) ys) := by
 obtain ⟨hj, hm⟩ := pixJ_nat h1 h2 h3 hx hy
 have hs := small h1 h2 h3
 have hJ : wrap64 ((wrap64 ((wrap64 ((y : Int) * (an : Int))) + (x : Int))) * (pn : Int)) = (((y * an + x) * pn : Nat) : Int) := hj
 generalize hjj : (y * an + x) * pn = j at *
 have HJ := Aside0.mk hJ
 clear hJ hj hjj
 have key := ev_up pn (fun k i s => spec_setPixel.l0 k (x : Int) (y : Int) ys (i : Int) an bn pn s) (fun i s => s = laidOver d j (ys.take i)) (fun _ _ => laidOver d j ys)
  (by
   intro i s hi hinv
   subst hinv
   right
   refine ⟨_, fun k => ?_, laid_set d ys j i (by omega) (by omega), rfl⟩
   simp only [spec_setPixel.l0]
   have e : (((j : Nat) : Int) + (i : Int)) = ((j + i : Nat) : Int) := by push_cast; rfl
   have hl : (laidOver d j (ys.take i)).length = d.length := laidOver_length d j _ (by rw [List.length_take]; omega)
   rw [HJ.out, e, w64 (x := ((j + i : Nat) : Int)) (by omega) (by omega), hl, if_pos (by omega), if_pos (by omega), if_pos (by omega), if_pos (by omega), if_pos (by omega), rd_nat ys i (by omega), w64n i (by omega), Int.toNat_natCast])
  (by
   intro s hinv
   subst hinv
   refine Ev.step (f := fun _ => some (laidOver d j ys)) (fun k => ?_) (Ev.now _)
   simp only [spec_setPixel.l0]
   rw [if_neg (by omega), List.take_of_length_le (by omega)])
  pn 0 d (by omega) (by unfold laidOver; simp)
 unfold spec_setPixel.f
 exact key
theorem pixelAt_eq {an bn pn x y : Nat} (h1 : an ≤ 16) (h2 : bn ≤ 16) (h3 : pn ≤ 4) (hx : x < an) (hy : y < bn) (d : List Int) (hd : d.length = (bn * an) * pn) : spec_pixelAt.f an bn pn d x y = some (nx pn d (y * an + x)) := by
 obtain ⟨hj, hm⟩ := pixJ_nat h1 h2 h3 hx hy
 have hs := small h1 h2 h3
 have hJ : wrap64 ((wrap64 ((wrap64 ((y : Int) * (an : Int))) + (x : Int))) * (pn : Int)) = (((y * an + x) * pn : Nat) : Int) := hj
 have e : ((((y * an + x) * pn : Nat) : Int) + (pn : Int)) = (((y * an + x) * pn + pn : Nat) : Int) := by push_cast; rfl
 have HJ := Aside0.mk hJ
 clear hJ hj
 unfold spec_pixelAt.f nx
 generalize (y * an + x) * pn = j at *
 rw [HJ.out, e, w64 (x := ((j + pn : Nat) : Int)) (by omega) (by omega), if_pos (by omega), if_pos (by omega), if_pos (by omega), Int.toNat_natCast, Int.toNat_natCast, copyInts_px _ (by rw [List.length_drop, List.length_take]; omega)]
 simp only [Option.bind_some]
 congr 1
 rw [List.drop_take]
 congr 1
 omega
theorem newImg_eq {wn hn pn : Nat} (h1 : wn ≤ 16) (h2 : hn ≤ 16) (h3 : pn ≤ 4) : spec_newImage.f wn hn pn = some ((wn : Int), (hn : Int), (pn : Int), List.replicate ((hn * wn) * pn) 0) := by
 have hs := small h1 h2 h3
 have hw : hn * wn ≤ 16 * 16 := Nat.mul_le_mul h2 h1
 have e1 : (wn : Int) * (hn : Int) = ((hn * wn : Nat) : Int) := by rw [Nat.mul_comm]; push_cast; rfl
 have e2 : ((hn * wn : Nat) : Int) * (pn : Int) = (((hn * wn) * pn : Nat) : Int) := by push_cast; rfl
 unfold spec_newImage.f
 rw [e1, w64 (x := ((hn * wn : Nat) : Int)) (by omega) (by omega), e2, w64 (by omega) (by omega), if_pos (by omega), Int.toNat_natCast, if_pos (by omega)]
def cropD (an pn : Nat) (d : List Int) (X Y wn hn : Nat) : List Int := imgD (fun x y => nx pn d ((Y + y) * an + (X + x))) wn hn
theorem cropD_len {an bn pn X Y wn hn : Nat} {d : List Int} (hd : d.length = (bn * an) * pn) (hX : X + wn ≤ an) (hY : Y + hn ≤ bn) : ∀ x y, x < wn → y < hn → (nx pn d ((Y + y) * an + (X + x))).length = pn := fun x y hx hy => nx_length hd (lin_lt (by omega) (by omega))
theorem crop_ev {an bn pn X Y wn hn : Nat} (h1 : an ≤ 16) (h2 : bn ≤ 16) (h3 : pn ≤ 4) (hX : X + wn ≤ an) (hY : Y + hn ≤ bn) (d : List Int) (hd : d.length = (bn * an) * pn) :
  Ev (fun k => spec_crop.f k an bn pn d X Y wn hn) ((wn : Int), (hn : Int), (pn : Int), cropD an pn d X Y wn hn) := by
 unfold spec_crop.f
 refine ev_now (newImg_eq (by omega) (by omega) h3) ?_
 have hlen := cropD_len hd hX hY
 have hfl : (cropD an pn d X Y wn hn).length = (hn * wn) * pn := imgD_length hlen
 have inner : ∀ (r : Nat), r < hn → ∀ s : List Int, (s.length = (hn * wn) * pn ∧ ∀ x y, x < wn → y < r → nx pn s (y * wn + x) = nx pn d ((Y + y) * an + (X + x))) →
   ∃ s' : List Int, (s'.length = (hn * wn) * pn ∧ ∀ x y, x < wn → y < r + 1 → nx pn s' (y * wn + x) = nx pn d ((Y + y) * an + (X + x))) ∧
    ∀ res, Ev (fun k => spec_crop.l0 k X Y wn hn ((r + 1 : Nat) : Int) an bn pn d wn hn pn s') res → Ev (fun k => spec_crop.l1 k X Y wn hn (r : Int) 0 an bn pn d wn hn pn s) res := by
  intro r hr s hs
  obtain ⟨s', h4, h5⟩ := ev_run wn (fun k c s => spec_crop.l1 k X Y wn hn (r : Int) (c : Int) an bn pn d wn hn pn s) (fun s k => spec_crop.l0 k X Y wn hn ((r + 1 : Nat) : Int) an bn pn d wn hn pn s)
   (fun c s => s.length = (hn * wn) * pn ∧ (∀ x y, x < wn → y < r → nx pn s (y * wn + x) = nx pn d ((Y + y) * an + (X + x))) ∧ ∀ x, x < c → nx pn s (r * wn + x) = nx pn d ((Y + r) * an + (X + x)))
   (by
    intro c s hc ⟨hsl, i1, i2⟩
    have hyl : (nx pn d ((Y + r) * an + (X + c))).length = pn := hlen c r hc hr
    have hlin := lin_lt hc hr
    have hm : (r * wn + c + 1) * pn ≤ (hn * wn) * pn := Nat.mul_le_mul_right pn hlin
    rw [Nat.add_mul, Nat.one_mul] at hm
    refine ⟨laidOver s ((r * wn + c) * pn) (nx pn d ((Y + r) * an + (X + c))), ⟨by rw [laidOver_length _ _ _ (by rw [hyl, hsl]; exact hm)]; exact hsl, ?_, ?_⟩, ?_⟩
    ·intro x y hx hy
     rw [nx_laid hsl hyl hlin (lin_lt hx (by omega)), if_neg (fun e => by have := (lin_ne hx hc e).2; omega)]
     exact i1 x y hx hy
    ·intro x hx
     rw [nx_laid hsl hyl hlin (lin_lt (by omega) hr)]
     by_cases e : x = c
     ·subst e; rw [if_pos rfl]
     ·rw [if_neg (by omega)]; exact i2 x (by omega)
    ·intro res hres
     refine Ev.step (f := fun k => (spec_pixelAt.f an bn pn d ((X + c : Nat) : Int) ((Y + r : Nat) : Int)).bind fun t => (spec_setPixel.f k wn hn pn s (c : Int) (r : Int) t).bind fun u => spec_crop.l1 k X Y wn hn (r : Int) ((c + 1 : Nat) : Int) an bn pn d wn hn pn u) (fun k => ?_) (ev_now (pixelAt_eq h1 h2 h3 (by omega) (by omega) d hd) (ev_bind (setPixel_ev (by omega) (by omega) h3 hc hr s _ hsl hyl) hres))
     simp only [spec_crop.l1]
     rw [if_pos (by omega), w64 (x := (X : Int) + (c : Int)) (by omega) (by omega), w64 (x := (Y : Int) + (r : Int)) (by omega) (by omega), w64n c (by omega)]
     push_cast
     rfl)
   (by
    intro s _ res hres
    refine Ev.step (fun k => ?_) hres
    simp only [spec_crop.l1]
    rw [if_neg (by omega), w64n r (by omega)])
   wn 0 s (by omega) ⟨hs.1, hs.2, fun x hx => by omega⟩
  refine ⟨s', ⟨h4.1, fun x y hx hy => ?_⟩, h5⟩
  by_cases e : y = r
  ·subst e; exact h4.2.2 x hx
  ·exact h4.2.1 x y hx (by omega)
 obtain ⟨s', h4, h5⟩ := ev_run hn (fun k r s => spec_crop.l0 k X Y wn hn (r : Int) an bn pn d wn hn pn s) (fun s _ => some ((wn : Int), (hn : Int), (pn : Int), s))
  (fun r s => s.length = (hn * wn) * pn ∧ ∀ x y, x < wn → y < r → nx pn s (y * wn + x) = nx pn d ((Y + y) * an + (X + x)))
  (by
   intro r s hr hs
   obtain ⟨s', i1, i2⟩ := inner r hr s hs
   refine ⟨s', i1, fun res hres => Ev.step (fun k => ?_) (i2 res hres)⟩
   simp only [spec_crop.l0]
   rw [if_pos (by omega)])
  (by
   intro s _ res hres
   refine Ev.step (fun k => ?_) hres
   simp only [spec_crop.l0]
   rw [if_neg (by omega)])
  hn 0 (List.replicate ((hn * wn) * pn) 0) (by omega) ⟨by simp, fun x y hx hy => by omega⟩
 have e : s' = cropD an pn d X Y wn hn := ext_img h4.1 hfl (fun x y hx hy => by rw [h4.2 x y hx hy]; unfold cropD; rw [nx_imgD hlen hx hy])
 subst e
 exact h5 _ (Ev.now _)
def pastePx (an pn : Nat) (d : List Int) (X Y : Int) (wn hn : Nat) (e : List Int) (x y : Nat) : List Int :=
 if X ≤ (x : Int) ∧ (x : Int) < X + wn ∧ Y ≤ (y : Int) ∧ (y : Int) < Y + hn then nx pn e (((y : Int) - Y).toNat * wn + ((x : Int) - X).toNat) else nx pn d (y * an + x)
theorem pastePx_len {an bn pn wn hn : Nat} {d e : List Int} {X Y : Int} (hd : d.length = (bn * an) * pn) (he : e.length = (hn * wn) * pn) : ∀ x y, x < an → y < bn → (pastePx an pn d X Y wn hn e x y).length = pn := by
 intro x y hx hy
 unfold pastePx
 split
 ·exact nx_length he (lin_lt (by omega) (by omega))
 ·exact nx_length hd (lin_lt hx hy)
theorem onImage_eq {an bn : Nat} (h1 : 1 ≤ an ∧ an ≤ 16) (h2 : 1 ≤ bn ∧ bn ≤ 16) (p : Int) (d : List Int) (x y : Int) : spec_onImage.f an bn p d x y = some (decide (0 ≤ x ∧ x < an ∧ 0 ≤ y ∧ y < bn)) := by
 unfold spec_onImage.f
 rw [w64 (x := (an : Int) - 1) (by omega) (by omega), w64 (x := (bn : Int) - 1) (by omega) (by omega), spec_inRangeI_eq, spec_inRangeI_eq]
 simp only [Option.bind_some]
 by_cases c : 0 ≤ x ∧ x ≤ (an : Int) - 1
 ·rw [if_pos (by simpa using c)]; congr 1; rw [Bool.eq_iff_iff]; simp; omega
 ·rw [if_neg (by simpa using c), decide_eq_false (by omega)]
theorem paste_ev {an bn pn wn hn : Nat} {X Y : Int} (h1 : 1 ≤ an ∧ an ≤ 16) (h2 : 1 ≤ bn ∧ bn ≤ 16) (h3 : pn ≤ 4) (h4 : wn ≤ 16) (h5 : hn ≤ 16) (hX : -16 ≤ X ∧ X ≤ 16) (hY : -16 ≤ Y ∧ Y ≤ 16) (d e : List Int) (hd : d.length = (bn * an) * pn) (he : e.length = (hn * wn) * pn) :
  Ev (fun k => spec_paste.f k an bn pn d X Y wn hn pn e) (imgD (pastePx an pn d X Y wn hn e) an bn) := by
 unfold spec_paste.f
 have hlen := pastePx_len (X := X) (Y := Y) hd he
 let I : Nat → Nat → List Int → Prop := fun r c s => s.length = (bn * an) * pn ∧ ∀ x y : Nat, x < an → y < bn → nx pn s (y * an + x) = if X ≤ (x : Int) ∧ (x : Int) < X + wn ∧ Y ≤ (y : Int) ∧ (y : Int) < Y + hn ∧ ((y : Int) < Y + r ∨ ((y : Int) = Y + r ∧ (x : Int) < X + c)) then nx pn e (((y : Int) - Y).toNat * wn + ((x : Int) - X).toNat) else nx pn d (y * an + x)
 have inner : ∀ (r : Nat), r < hn → ∀ s : List Int, I r 0 s → ∃ s' : List Int, I (r + 1) 0 s' ∧
    ∀ res, Ev (fun k => spec_paste.l0 k X Y ((r + 1 : Nat) : Int) an bn pn s' wn hn pn e) res → Ev (fun k => spec_paste.l1 k X Y (r : Int) 0 an bn pn s wn hn pn e) res := by
  intro r hr s hs
  obtain ⟨s', i4, i5⟩ := ev_run wn (fun k c s => spec_paste.l1 k X Y (r : Int) (c : Int) an bn pn s wn hn pn e) (fun s k => spec_paste.l0 k X Y ((r + 1 : Nat) : Int) an bn pn s wn hn pn e) (fun c s => I r c s)
   (by
    intro c s hc ⟨hsl, i1⟩
    have w1 := w64 (x := X + (c : Int)) (by omega) (by omega)
    have w2 := w64 (x := Y + (r : Int)) (by omega) (by omega)
    by_cases on : 0 ≤ X + (c : Int) ∧ X + (c : Int) < an ∧ 0 ≤ Y + (r : Int) ∧ Y + (r : Int) < bn
    ·obtain ⟨x0, hx0⟩ := Int.eq_ofNat_of_zero_le on.1
     obtain ⟨y0, hy0⟩ := Int.eq_ofNat_of_zero_le on.2.2.1
     have hx0a : x0 < an := by omega
     have hy0b : y0 < bn := by omega
     have hyl : (nx pn e (r * wn + c)).length = pn := nx_length he (lin_lt hc hr)
     have hlin := lin_lt hx0a hy0b
     have hm : (y0 * an + x0 + 1) * pn ≤ (bn * an) * pn := Nat.mul_le_mul_right pn hlin
     rw [Nat.add_mul, Nat.one_mul] at hm
     refine ⟨laidOver s ((y0 * an + x0) * pn) (nx pn e (r * wn + c)), ⟨by rw [laidOver_length _ _ _ (by rw [hyl, hsl]; exact hm)]; exact hsl, ?_⟩, ?_⟩
     ·intro x y hx hy
      rw [nx_laid hsl hyl hlin (lin_lt hx hy)]
      by_cases q : x = x0 ∧ y = y0
      ·obtain ⟨rfl, rfl⟩ := q
       rw [if_pos rfl, if_pos (by omega), show ((y : Int) - Y).toNat = r by omega, show ((x : Int) - X).toNat = c by omega]
      ·rw [if_neg (fun z => q (lin_ne hx hx0a z)), i1 x y hx hy]
       by_cases z : X ≤ (x : Int) ∧ (x : Int) < X + wn ∧ Y ≤ (y : Int) ∧ (y : Int) < Y + hn ∧ ((y : Int) < Y + r ∨ ((y : Int) = Y + r ∧ (x : Int) < X + c))
       ·rw [if_pos z, if_pos (by omega)]
       ·rw [if_neg z, if_neg (by omega)]
     ·intro res hres
      refine Ev.step (f := fun k => (spec_onImage.f an bn pn s (X + (c : Int)) (Y + (r : Int))).bind fun u => if u = true then ((spec_pixelAt.f wn hn pn e (c : Int) (r : Int)).bind fun t => (spec_setPixel.f k an bn pn s (X + (c : Int)) (Y + (r : Int)) t).bind fun v => spec_paste.l1 k X Y (r : Int) ((c + 1 : Nat) : Int) an bn pn v wn hn pn e) else spec_paste.l1 k X Y (r : Int) ((c + 1 : Nat) : Int) an bn pn s wn hn pn e) (fun k => ?_) (ev_now (onImage_eq h1 h2 _ _ _ _) (ev_pos (decide_eq_true on) (ev_now (pixelAt_eq h4 h5 h3 hc hr e he) (ev_bind ?_ hres))))
      ·simp only [spec_paste.l1]
       rw [if_pos (by omega), w1, w2, w64n c (by omega)]
      ·rw [hx0, hy0]
       exact setPixel_ev h1.2 h2.2 h3 hx0a hy0b s _ hsl hyl
    ·refine ⟨s, ⟨hsl, fun x y hx hy => ?_⟩, ?_⟩
     ·rw [i1 x y hx hy]
      by_cases z : X ≤ (x : Int) ∧ (x : Int) < X + wn ∧ Y ≤ (y : Int) ∧ (y : Int) < Y + hn ∧ ((y : Int) < Y + r ∨ ((y : Int) = Y + r ∧ (x : Int) < X + c))
      ·rw [if_pos z, if_pos (by omega)]
      ·rw [if_neg z, if_neg (by omega)]
     ·intro res hres
      refine Ev.step (f := fun k => (spec_onImage.f an bn pn s (X + (c : Int)) (Y + (r : Int))).bind fun u => if u = true then ((spec_pixelAt.f wn hn pn e (c : Int) (r : Int)).bind fun t => (spec_setPixel.f k an bn pn s (X + (c : Int)) (Y + (r : Int)) t).bind fun v => spec_paste.l1 k X Y (r : Int) ((c + 1 : Nat) : Int) an bn pn v wn hn pn e) else spec_paste.l1 k X Y (r : Int) ((c + 1 : Nat) : Int) an bn pn s wn hn pn e) (fun k => ?_) (ev_now (onImage_eq h1 h2 _ _ _ _) (ev_neg (by simpa using on) hres))
      simp only [spec_paste.l1]
      rw [if_pos (by omega), w1, w2, w64n c (by omega)])
   (by
    intro s _ res hres
    refine Ev.step (fun k => ?_) hres
    simp only [spec_paste.l1]
    rw [if_neg (by omega), w64n r (by omega)])
   wn 0 s (by omega) hs
  refine ⟨s', ⟨i4.1, fun x y hx hy => ?_⟩, i5⟩
  rw [i4.2 x y hx hy]
  by_cases z : X ≤ (x : Int) ∧ (x : Int) < X + wn ∧ Y ≤ (y : Int) ∧ (y : Int) < Y + hn ∧ ((y : Int) < Y + r ∨ ((y : Int) = Y + r ∧ (x : Int) < X + wn))
  ·rw [if_pos z, if_pos (by omega)]
  ·rw [if_neg z, if_neg (by omega)]
 obtain ⟨s', i4, i5⟩ := ev_run hn (fun k r s => spec_paste.l0 k X Y (r : Int) an bn pn s wn hn pn e) (fun s _ => some s) (fun r s => I r 0 s)
  (by
   intro r s hr hs
   obtain ⟨s', i1, i2⟩ := inner r hr s hs
   refine ⟨s', i1, fun res hres => Ev.step (fun k => ?_) (i2 res hres)⟩
   simp only [spec_paste.l0]
   rw [if_pos (by omega)])
  (by
   intro s _ res hres
   refine Ev.step (fun k => ?_) hres
   simp only [spec_paste.l0]
   rw [if_neg (by omega)])
  hn 0 d (by omega) ⟨hd, fun x y hx hy => by rw [if_neg (by omega)]⟩
 have q : s' = imgD (pastePx an pn d X Y wn hn e) an bn := ext_img i4.1 (imgD_length hlen) (fun x y hx hy => by
  rw [i4.2 x y hx hy, nx_imgD hlen hx hy]
  unfold pastePx
  by_cases z : X ≤ (x : Int) ∧ (x : Int) < X + wn ∧ Y ≤ (y : Int) ∧ (y : Int) < Y + hn
  ·rw [if_pos z, if_pos (by omega)]
  ·rw [if_neg z, if_neg (by omega)])
 subst q
 exact i5 _ (Ev.now _)

/- PatchImage, as the program and the reference have it. -/

def inBx (r : S47) (x y : Nat) : Bool := decide (r.f0 ≤ (x : Int) ∧ (x : Int) < r.f0 + r.f2 ∧ r.f1 ≤ (y : Int) ∧ (y : Int) < r.f1 + r.f3)
def patchPx (an pn : Nat) (d e : List Int) (l : List S47) (x y : Nat) : List Int := if l.any (fun r => inBx r x y) = true then nx pn e (y * an + x) else nx pn d (y * an + x)
theorem patchPx_len {an bn pn : Nat} {d e : List Int} (hd : d.length = (bn * an) * pn) (he : e.length = (bn * an) * pn) (l : List S47) : ∀ x y, x < an → y < bn → (patchPx an pn d e l x y).length = pn := by
 intro x y hx hy
 unfold patchPx
 split
 ·exact nx_length he (lin_lt hx hy)
 ·exact nx_length hd (lin_lt hx hy)
theorem onB_box {a b : Int} {r : S47} (h : onB a b r = true) : ∃ X Y W H : Nat, r = ⟨X, Y, W, H⟩ ∧ 1 ≤ W ∧ 1 ≤ H ∧ (X : Int) + W ≤ a ∧ (Y : Int) + H ≤ b := by
 have h' := (onB_iff a b r).1 h
 obtain ⟨X, hX⟩ := Int.eq_ofNat_of_zero_le h'.1
 obtain ⟨Y, hY⟩ := Int.eq_ofNat_of_zero_le h'.2.2.1
 obtain ⟨W, hW⟩ := Int.eq_ofNat_of_zero_le (show 0 ≤ r.f2 by omega)
 obtain ⟨H, hH⟩ := Int.eq_ofNat_of_zero_le (show 0 ≤ r.f3 by omega)
 exact ⟨X, Y, W, H, by cases r; simp_all, by omega, by omega, by omega, by omega⟩
theorem put1_is {an bn pn : Nat} (h1 : an ≤ 16) (h2 : bn ≤ 16) (h3 : pn ≤ 4) {e : List Int} {x y : Nat} (hx : x < an) (hy : y < bn) (d : List Int) : put1 an pn e x y d = laidOver d ((y * an + x) * pn) (nx pn e (y * an + x)) := by
 unfold put1
 rw [(pixJ_nat h1 h2 h3 hx hy).1, Int.toNat_natCast, ← (pixJ_nat h1 h2 h3 hx hy).1]
 rw [show pixT e (pixJ an pn x y) pn = pxAt an pn e x y from rfl, pxAt_nat h1 h2 h3 hx hy]
theorem put1_len {an bn pn : Nat} (h1 : an ≤ 16) (h2 : bn ≤ 16) (h3 : pn ≤ 4) {e : List Int} (he : e.length = (bn * an) * pn) {x y : Nat} (hx : x < an) (hy : y < bn) {d : List Int} (hd : d.length = (bn * an) * pn) : (put1 an pn e x y d).length = (bn * an) * pn := by
 have hlin := lin_lt hx hy
 have hm : (y * an + x + 1) * pn ≤ (bn * an) * pn := Nat.mul_le_mul_right pn hlin
 rw [Nat.add_mul, Nat.one_mul] at hm
 rw [put1_is h1 h2 h3 hx hy, laidOver_length _ _ _ (by rw [nx_length he hlin, hd]; exact hm)]
 exact hd
theorem put1_nx {an bn pn : Nat} (h1 : an ≤ 16) (h2 : bn ≤ 16) (h3 : pn ≤ 4) {e : List Int} (he : e.length = (bn * an) * pn) {x y : Nat} (hx : x < an) (hy : y < bn) {d : List Int} (hd : d.length = (bn * an) * pn) {x' y' : Nat} (hx' : x' < an) (hy' : y' < bn) : nx pn (put1 an pn e x y d) (y' * an + x') = if x' = x ∧ y' = y then nx pn e (y' * an + x') else nx pn d (y' * an + x') := by
 rw [put1_is h1 h2 h3 hx hy, nx_laid hd (nx_length he (lin_lt hx hy)) (lin_lt hx hy) (lin_lt hx' hy')]
 by_cases c : x' = x ∧ y' = y
 ·rw [if_pos c, if_pos (by rw [c.1, c.2]), c.1, c.2]
 ·rw [if_neg c, if_neg (fun z => c (lin_ne hx' hx z))]
theorem putX_nx {an bn pn : Nat} (h1 : an ≤ 16) (h2 : bn ≤ 16) (h3 : pn ≤ 4) {e : List Int} (he : e.length = (bn * an) * pn) {X y : Nat} (hy : y < bn) {d : List Int} (hd : d.length = (bn * an) * pn) : ∀ n, X + n ≤ an → (putX an pn e X y n d).length = (bn * an) * pn ∧ ∀ x' y', x' < an → y' < bn → nx pn (putX an pn e X y n d) (y' * an + x') = if y' = y ∧ X ≤ x' ∧ x' < X + n then nx pn e (y' * an + x') else nx pn d (y' * an + x') := by
 intro n
 induction n with
 | zero =>
  intro _
  refine ⟨hd, fun x' y' hx' hy' => ?_⟩
  rw [if_neg (by omega)]
  rfl
 | succ n ih =>
  intro hn
  obtain ⟨i1, i2⟩ := ih (by omega)
  rw [putX_succ]
  refine ⟨put1_len h1 h2 h3 he (by omega) hy i1, fun x' y' hx' hy' => ?_⟩
  rw [put1_nx h1 h2 h3 he (by omega) hy i1 hx' hy', i2 x' y' hx' hy']
  by_cases c : x' = X + n ∧ y' = y
  ·rw [if_pos c, if_pos (by omega)]
  ·rw [if_neg c]
   by_cases c2 : y' = y ∧ X ≤ x' ∧ x' < X + n
   ·rw [if_pos c2, if_pos (by omega)]
   ·rw [if_neg c2, if_neg (by omega)]
theorem putB_nx {an bn pn : Nat} (h1 : an ≤ 16) (h2 : bn ≤ 16) (h3 : pn ≤ 4) {e : List Int} (he : e.length = (bn * an) * pn) {X Y W : Nat} (hW : X + W ≤ an) {d : List Int} (hd : d.length = (bn * an) * pn) : ∀ n, Y + n ≤ bn → (putB an pn e X Y W n d).length = (bn * an) * pn ∧ ∀ x' y', x' < an → y' < bn → nx pn (putB an pn e X Y W n d) (y' * an + x') = if X ≤ x' ∧ x' < X + W ∧ Y ≤ y' ∧ y' < Y + n then nx pn e (y' * an + x') else nx pn d (y' * an + x') := by
 intro n
 induction n with
 | zero =>
  intro _
  refine ⟨hd, fun x' y' hx' hy' => ?_⟩
  rw [if_neg (by omega)]
  rfl
 | succ n ih =>
  intro hn
  obtain ⟨i1, i2⟩ := ih (by omega)
  obtain ⟨i3, i4⟩ := putX_nx h1 h2 h3 he (X := X) (y := Y + n) (by omega) i1 W hW
  rw [putB_succ]
  refine ⟨i3, fun x' y' hx' hy' => ?_⟩
  rw [i4 x' y' hx' hy', i2 x' y' hx' hy']
  by_cases c : y' = Y + n ∧ X ≤ x' ∧ x' < X + W
  ·rw [if_pos c, if_pos (by omega)]
  ·rw [if_neg c]
   by_cases c2 : X ≤ x' ∧ x' < X + W ∧ Y ≤ y' ∧ y' < Y + n
   ·rw [if_pos c2, if_pos (by omega)]
   ·rw [if_neg c2, if_neg (by omega)]
theorem patchD_nx {an bn pn : Nat} (h1 : an ≤ 16) (h2 : bn ≤ 16) (h3 : pn ≤ 4) {e : List Int} (he : e.length = (bn * an) * pn) : ∀ (l : List S47), (∀ r ∈ l, onB an bn r = true) → ∀ d : List Int, d.length = (bn * an) * pn → (patchD an pn e l d).length = (bn * an) * pn ∧ ∀ x' y', x' < an → y' < bn → nx pn (patchD an pn e l d) (y' * an + x') = patchPx an pn d e l x' y' := by
 intro l
 induction l with
 | nil =>
  intro _ d hd
  exact ⟨hd, fun x' y' _ _ => rfl⟩
 | cons r l ih =>
  intro hl d hd
  obtain ⟨X, Y, W, H, rfl, hW, hH, hXW, hYH⟩ := onB_box (hl r (by simp))
  obtain ⟨i1, i2⟩ := putB_nx h1 h2 h3 he (X := X) (Y := Y) (W := W) (by omega) hd H (by omega)
  obtain ⟨i3, i4⟩ := ih (fun q hq => hl q (by simp [hq])) _ i1
  have e0 : patchD an pn e ((⟨X, Y, W, H⟩ : S47) :: l) d = patchD an pn e l (putB an pn e X Y W H d) := rfl
  rw [e0]
  refine ⟨i3, fun x' y' hx' hy' => ?_⟩
  rw [i4 x' y' hx' hy']
  unfold patchPx
  rw [List.any_cons, i2 x' y' hx' hy']
  by_cases c : l.any (fun r => inBx r x' y') = true
  ·rw [if_pos c, if_pos (by rw [c]; simp)]
  ·rw [if_neg c]
   have cf : l.any (fun r => inBx r x' y') = false := Bool.eq_false_iff.2 c
   rw [cf, Bool.or_false]
   by_cases c2 : X ≤ x' ∧ x' < X + W ∧ Y ≤ y' ∧ y' < Y + H
   ·rw [if_pos c2, if_pos (by unfold inBx; exact decide_eq_true (by show (X : Int) ≤ x' ∧ (x' : Int) < (X : Int) + (W : Int) ∧ (Y : Int) ≤ y' ∧ (y' : Int) < (Y : Int) + (H : Int); omega))]
   ·rw [if_neg c2, if_neg (by unfold inBx; rw [decide_eq_false (by show ¬ ((X : Int) ≤ x' ∧ (x' : Int) < (X : Int) + (W : Int) ∧ (Y : Int) ≤ y' ∧ (y' : Int) < (Y : Int) + (H : Int)); omega)]; simp)]
def patchV (a b p : Int) (d : List Int) (a' b' p' : Int) (e : List Int) (l : List S47) : Int × Int × Int × List Int × Bool :=
 if sameV a b p d a' b' p' e = true ∧ l.length ≤ 128 ∧ l.all (onB a b) = true then (a, b, p, imgD (patchPx a.toNat p.toNat d e l) a.toNat b.toNat, true) else (0, 0, 0, [], false)
theorem onB_is {a b : Int} (r : S47) : onB a b r = decide (0 ≤ r.f0 ∧ r.f0 < a ∧ 0 ≤ r.f1 ∧ r.f1 < b ∧ 1 ≤ r.f2 ∧ r.f2 ≤ a - r.f0 ∧ 1 ≤ r.f3 ∧ r.f3 ≤ b - r.f1) := by
 rw [Bool.eq_iff_iff, onB_iff, decide_eq_true_iff]
theorem isBoxOn_onB {a b p : Int} {d : List Int} (hs : 1 ≤ a ∧ a ≤ 16 ∧ 1 ≤ b ∧ b ≤ 16) (r : S47) : impl_isBoxOn.f a b p d r.f0 r.f1 r.f2 r.f3 = some (onB a b r) := by
 rw [onB_is]
 unfold impl_isBoxOn.f
 generalize r.f0 = x, r.f1 = y, r.f2 = w, r.f3 = h
 by_cases c1 : x ≥ 0
 ·rw [if_pos c1]
  by_cases c2 : x < a
  ·rw [if_pos c2]
   by_cases c3 : y ≥ 0
   ·rw [if_pos c3]
    by_cases c4 : y < b
    ·rw [if_pos c4, w64 (x := a - x) (by omega) (by omega), w64 (x := b - y) (by omega) (by omega)]
     by_cases c5 : w ≥ 1
     ·rw [if_pos c5]
      by_cases c6 : w ≤ a - x
      ·rw [if_pos c6]
       by_cases c7 : h ≥ 1
       ·rw [if_pos c7]; congr 1; rw [decide_eq_decide]; omega
       ·rw [if_neg c7, decide_eq_false (by omega)]
      ·rw [if_neg c6, decide_eq_false (by omega)]
     ·rw [if_neg c5, decide_eq_false (by omega)]
    ·rw [if_neg c4, decide_eq_false (by omega)]
   ·rw [if_neg c3, decide_eq_false (by omega)]
  ·rw [if_neg c2, decide_eq_false (by omega)]
 ·rw [if_neg c1, decide_eq_false (by omega)]
theorem validBox_onB {a b p : Int} {d : List Int} (hs : 1 ≤ a ∧ a ≤ 16 ∧ 1 ≤ b ∧ b ≤ 16) (r : S47) : spec_validBox.f a b p d r.f0 r.f1 r.f2 r.f3 = some (onB a b r) := by
 rw [onB_is]
 unfold spec_validBox.f
 generalize r.f0 = x, r.f1 = y, r.f2 = w, r.f3 = h
 rw [w64 (x := a - 1) (by omega) (by omega), w64 (x := b - 1) (by omega) (by omega)]
 simp only [spec_inRangeI_eq, Option.bind_some, Bool.and_eq_true, decide_eq_true_eq]
 by_cases c1 : 0 ≤ x ∧ x ≤ a - 1
 ·rw [if_pos c1]
  by_cases c2 : 0 ≤ y ∧ y ≤ b - 1
  ·rw [if_pos c2, w64 (x := a - x) (by omega) (by omega), w64 (x := b - y) (by omega) (by omega)]
   by_cases c3 : 1 ≤ w ∧ w ≤ a - x
   ·rw [if_pos c3]; congr 1; rw [Bool.eq_iff_iff]; simp; omega
   ·rw [if_neg c3, decide_eq_false (by omega)]
  ·rw [if_neg c2, decide_eq_false (by omega)]
 ·rw [if_neg c1, decide_eq_false (by omega)]
theorem rdBx (l : List S47) (i : Nat) (h : i < l.length) : rd_T47 l (i : Int) = l[i] := by simp [rd_T47, h]
theorem impl_PatchImage_ev (a b p : Int) (d : List Int) (a' b' p' : Int) (e : List Int) (l : List S47) (hl : l.length ≤ 1000000000000) : Ev (fun k => impl_PatchImage.f k a b p d a' b' p' e l) (patchV a b p d a' b' p' e l) := by
 unfold impl_PatchImage.f patchV
 have stop : ∀ q, ¬ (sameV a b p d a' b' p' e = true ∧ l.length ≤ 128 ∧ l.all (onB a b) = true) → q = true → Ev (fun k => impl_PatchImage.j0 k l q a b p d a' b' p' e) (if sameV a b p d a' b' p' e = true ∧ l.length ≤ 128 ∧ l.all (onB a b) = true then (a, b, p, imgD (patchPx a.toNat p.toNat d e l) a.toNat b.toNat, true) else (0, 0, 0, [], false)) := by
  intro q hn hq
  subst hq
  rw [if_neg hn]
  refine Ev.step (f := fun _ => some (0, 0, 0, [], false)) (fun k => ?_) (Ev.now _)
  simp only [impl_PatchImage.j0]
  rw [if_pos trivial]
 refine ev_now (impl_isImage_eq a b p d) ?_
 by_cases c1 : validI a b p d = true
 ·refine ev_pos c1 (ev_now (impl_isImage_eq a' b' p' e) ?_)
  by_cases c2 : validI a' b' p' e = true
  ·refine ev_pos c2 (ev_now (impl_alike_eq a b p d a' b' p' e) ?_)
   by_cases c3 : a = a' ∧ b = b' ∧ p = p'
   ·refine ev_pos (decide_eq_true c3) ?_
    have hsame : sameV a b p d a' b' p' e = true := (sameV_iff _ _ _ _ _ _ _ _).2 ⟨c1, c2, c3.1, c3.2.1, c3.2.2⟩
    by_cases c4 : (l.length : Int) > 128
    ·exact stop _ (by omega) (decide_eq_true c4)
    ·obtain ⟨rfl, rfl, rfl⟩ := c3
     rw [decide_eq_false c4]
     have hs := ((validI_iff a b p d).1 c1).1
     have hs' : 1 ≤ a ∧ a ≤ 16 ∧ 1 ≤ b ∧ b ≤ 16 := by omega
     have hval : l.all (onB a b) = true → impl_patched.f a b p d a b p e l = some (a, b, p, imgD (patchPx a.toNat p.toNat d e l) a.toNat b.toNat) := by
      intro hall
      unfold impl_patched.f
      rw [if_pos ⟨c1, c2, rfl, rfl, rfl, hall⟩]
      obtain ⟨an, bn, pn, rfl, rfl, rfl, q1, q2, q3, q4, q5, q6, q7⟩ := nat_of c1
      obtain ⟨_, _, _, f1, f2, f3, _, _, _, _, _, _, q8⟩ := nat_of c2
      have f1 := Int.ofNat.inj f1
      have f2 := Int.ofNat.inj f2
      have f3 := Int.ofNat.inj f3
      subst f1 f2 f3
      obtain ⟨i1, i2⟩ := patchD_nx q2 q4 q6 q8 l (List.all_eq_true.1 hall) d q7
      simp only [Int.toNat_natCast]
      have hlen := patchPx_len q7 q8 l
      rw [ext_img i1 (imgD_length hlen) (fun x y hx hy => by rw [i2 x y hx hy, nx_imgD hlen hx hy])]
     have key := ev_up l.length (fun k i (_ : Unit) => impl_PatchImage.l0 k l l (l.length : Int) (i : Int) a b p d a b p e) (fun i _ => (l.take i).all (onB a b) = true) (fun _ _ => if l.all (onB a b) = true then (a, b, p, imgD (patchPx a.toNat p.toNat d e l) a.toNat b.toNat, true) else (0, 0, 0, [], false))
      (by
       intro i _ hi hinv
       cases hb : onB a b l[i] with
       | true =>
        refine .inr ⟨(), fun k => ?_, ?_, rfl⟩
        ·simp only [impl_PatchImage.l0]
         rw [if_pos (by omega), if_pos (by omega), if_pos (by omega), rdBx l i hi, isBoxOn_onB hs', hb]
         simp only [Option.bind_some]
         rw [if_pos trivial, w64n i (by omega)]
        ·rw [List.take_succ_eq_append_getElem hi, List.all_append, hinv, List.all_cons, hb]; rfl
       | false =>
        left
        rw [if_neg (fun h => by
         have := List.all_eq_true.1 h l[i] (List.getElem_mem hi)
         rw [hb] at this; cases this)]
        refine Ev.step (f := fun _ => some (0, 0, 0, [], false)) (fun k => ?_) (Ev.now _)
        simp only [impl_PatchImage.l0]
        rw [if_pos (by omega), if_pos (by omega), if_pos (by omega), rdBx l i hi, isBoxOn_onB hs', hb]
        simp)
      (by
       intro _ hinv
       rw [List.take_length] at hinv
       rw [if_pos hinv]
       refine Ev.step (f := fun _ => (impl_patched.f a b p d a b p e l).bind fun t => some (t.1, t.2.1, t.2.2.1, t.2.2.2, true)) (fun k => ?_) (ev_now (hval hinv) (Ev.now _))
       simp only [impl_PatchImage.l0]
       rw [if_neg (by omega)])
      l.length 0 () (by omega) rfl
     refine Ev.step (f := fun k => impl_PatchImage.l0 k l l (l.length : Int) 0 a b p d a b p e) (fun k => ?_) ?_
     ·simp only [impl_PatchImage.j0]
      rw [if_neg (by simp)]
     ·refine ev_val key ?_
      by_cases hall : l.all (onB a b) = true
      ·rw [if_pos hall, if_pos ⟨hsame, by omega, hall⟩]
      ·rw [if_neg hall, if_neg (fun h => hall h.2.2)]
   ·rw [decide_eq_false c3]
    exact ev_neg (by simp) (stop _ (fun h => c3 (by have := (sameV_iff _ _ _ _ _ _ _ _).1 h.1; omega)) rfl)
  ·exact ev_neg c2 (stop _ (fun h => c2 ((sameV_iff _ _ _ _ _ _ _ _).1 h.1).2.1) rfl)
 ·exact ev_neg c1 (stop _ (fun h => c1 ((sameV_iff _ _ _ _ _ _ _ _).1 h.1).1) rfl)
theorem spec_PatchImage_ev (a b p : Int) (d : List Int) (a' b' p' : Int) (e : List Int) (l : List S47) (hl : l.length ≤ 1000000000000) (hd0 : d.length ≤ 2000000) (he0 : e.length ≤ 2000000) : Ev (fun k => spec_PatchImage.f k a b p d a' b' p' e l) (patchV a b p d a' b' p' e l) := by
 unfold spec_PatchImage.f
 have stop : ∀ q, ¬ (sameV a b p d a' b' p' e = true ∧ l.length ≤ 128 ∧ l.all (onB a b) = true) → q = true → Ev (fun k => spec_PatchImage.j0 k l q a b p d a' b' p' e) (patchV a b p d a' b' p' e l) := by
  intro q hn hq
  subst hq
  unfold patchV
  rw [if_neg hn]
  refine Ev.step (f := fun _ => some (0, 0, 0, [], false)) (fun k => ?_) (Ev.now _)
  simp only [spec_PatchImage.j0]
  rw [if_pos trivial]
 refine ev_bind (spec_sameShape_ev a b p d a' b' p' e (by omega) (by omega)) ?_
 by_cases c : sameV a b p d a' b' p' e = true
 ·refine ev_pos c ?_
  by_cases c4 : (l.length : Int) > 128
  ·exact stop _ (by omega) (decide_eq_true c4)
  ·rw [decide_eq_false c4]
   obtain ⟨c1, c2, rfl, rfl, rfl⟩ := (sameV_iff _ _ _ _ _ _ _ _).1 c
   have hs := ((validI_iff a b p d).1 c1).1
   have hs' : 1 ≤ a ∧ a ≤ 16 ∧ 1 ≤ b ∧ b ≤ 16 := by omega
   refine Ev.step (f := fun k => (spec_copyImage.f a b p d).bind fun t => spec_PatchImage.l0 k l 0 a b p d a b p e t.1 t.2.1 t.2.2.1 t.2.2.2) (fun k => ?_) ?_
   ·simp only [spec_PatchImage.j0]
    rw [if_neg (by simp)]
   ·have hd1 : d.length ≤ 1000000 := by
     obtain ⟨an, bn, pn, _, _, _, _, q2, _, q4, _, q6, q7⟩ := nat_of c1
     have sm := small q2 q4 q6
     omega
    refine ev_now (show spec_copyImage.f a b p d = some (a, b, p, d) from by
     unfold spec_copyImage.f
     rw [copyInts_px d hd1]
     rfl) ?_
    obtain ⟨an, bn, pn, rfl, rfl, rfl, q1, q2, q3, q4, q5, q6, q7⟩ := nat_of c1
    obtain ⟨_, _, _, f1, f2, f3, _, _, _, _, _, _, q8⟩ := nat_of c2
    have f1 := Int.ofNat.inj f1
    have f2 := Int.ofNat.inj f2
    have f3 := Int.ofNat.inj f3
    subst f1 f2 f3
    have key := ev_up2 l.length (fun k i (s : List Int) => spec_PatchImage.l0 k l (i : Int) an bn pn d an bn pn e an bn pn s) (fun i s => (l.take i).all (onB an bn) = true ∧ s.length = (bn * an) * pn ∧ ∀ x y, x < an → y < bn → nx pn s (y * an + x) = patchPx an pn d e (l.take i) x y) (fun _ _ => patchV an bn pn d an bn pn e l)
     (by
      intro i s hi ⟨hinv, hsl, hpx⟩
      cases hb : onB an bn l[i] with
      | false =>
       left
       unfold patchV
       rw [if_neg (fun h => by
        have := List.all_eq_true.1 h.2.2 l[i] (List.getElem_mem hi)
        rw [hb] at this; cases this)]
       refine Ev.step (f := fun _ => some (0, 0, 0, [], false)) (fun k => ?_) (Ev.now _)
       simp only [spec_PatchImage.l0]
       rw [if_pos (by omega), if_pos (by omega), rdBx l i hi, validBox_onB hs', hb]
       simp
      | true =>
       right
       obtain ⟨X, Y, W, H, hr, hW, hH, hXW, hYH⟩ := onB_box hb
       have hcl := cropD_len (X := X) (Y := Y) (wn := W) (hn := H) q8 (by omega) (by omega)
       have hcD : (cropD an pn e X Y W H).length = (H * W) * pn := imgD_length hcl
       have hpl := pastePx_len (X := (X : Int)) (Y := (Y : Int)) hsl hcD
       refine ⟨imgD (pastePx an pn s X Y W H (cropD an pn e X Y W H)) an bn, fun res hres => ?_, ⟨by rw [List.take_succ_eq_append_getElem hi, List.all_append, hinv, List.all_cons, hb]; rfl, imgD_length hpl, fun x y hx hy => ?_⟩, rfl⟩
       ·refine Ev.step (f := fun k => (spec_validBox.f an bn pn d l[i].f0 l[i].f1 l[i].f2 l[i].f3).bind fun u => if u = true then ((spec_crop.f k an bn pn e l[i].f0 l[i].f1 l[i].f2 l[i].f3).bind fun t => (spec_paste.f k an bn pn s l[i].f0 l[i].f1 t.1 t.2.1 t.2.2.1 t.2.2.2).bind fun v => spec_PatchImage.l0 k l ((i + 1 : Nat) : Int) an bn pn d an bn pn e an bn pn v) else some (0, 0, 0, [], false)) (fun k => ?_) (ev_now (validBox_onB hs' l[i]) (ev_pos hb ?_))
        ·simp only [spec_PatchImage.l0]
         rw [if_pos (by omega), if_pos (by omega), rdBx l i hi, w64n i (by omega)]
        ·rw [hr]
         exact ev_bind (crop_ev q2 q4 q6 (by omega) (by omega) e q8) (ev_bind (paste_ev (X := (X : Int)) (Y := (Y : Int)) ⟨q1, q2⟩ ⟨q3, q4⟩ q6 (by omega) (by omega) (by omega) (by omega) s _ hsl hcD) hres)
       ·rw [nx_imgD hpl hx hy]
        unfold pastePx patchPx
        rw [List.take_succ_eq_append_getElem hi, List.any_append, List.any_cons, List.any_nil, Bool.or_false, hr]
        have hbx : inBx (⟨X, Y, W, H⟩ : S47) x y = decide ((X : Int) ≤ x ∧ (x : Int) < (X : Int) + W ∧ (Y : Int) ≤ y ∧ (y : Int) < (Y : Int) + H) := rfl
        rw [hbx]
        by_cases z : (X : Int) ≤ x ∧ (x : Int) < (X : Int) + W ∧ (Y : Int) ≤ y ∧ (y : Int) < (Y : Int) + H
        ·rw [if_pos z, decide_eq_true z, Bool.or_true, if_pos rfl]
         unfold cropD
         rw [nx_imgD hcl (by omega) (by omega)]
         congr 2
         ·congr 1
          omega
         ·omega
        ·rw [if_neg z, decide_eq_false z, Bool.or_false, hpx x y hx hy]
         rfl)
     (by
      intro s ⟨hinv, hsl, hpx⟩
      rw [List.take_length] at hinv hpx
      have hlen := patchPx_len q7 q8 l
      have hse : s = imgD (patchPx an pn d e l) an bn := ext_img hsl (imgD_length hlen) (fun x y hx hy => by rw [hpx x y hx hy, nx_imgD hlen hx hy])
      unfold patchV
      rw [if_pos ⟨c, by omega, hinv⟩]
      simp only [Int.toNat_natCast]
      rw [← hse]
      refine Ev.step (f := fun _ => some ((an : Int), (bn : Int), (pn : Int), s, true)) (fun k => ?_) (Ev.now _)
      simp only [spec_PatchImage.l0]
      rw [if_neg (by omega)])
     l.length 0 d (by omega) ⟨rfl, q7, fun x y _ _ => rfl⟩
    exact key
 ·exact ev_neg c (stop _ (fun h => c h.1) rfl)

/- A patch laid twice: the law FnPatchImageTwice over lists of numbers alone. -/

theorem drawPatch (code : List Int) (hw : ∀ x ∈ code, (Lit.int .u8 x).wf = true) : ∃ (w h p : Int) (d : List Int) (w' h' p' : Int) (d' : List Int) (l : List Box), d.length ≤ 1024 ∧ d'.length ≤ 1024 ∧ l.length ≤ 300 ∧ (∃ m, l = chBoxes w h p d w' h' p' d' ++ m) ∧ Ev (fun k => spec_DrawPatchImage.f k code) (w, h, p, d, w', h', p', d', l) := by
 obtain ⟨b, hb, hB⟩ := newReader_at code (code_bytes code hw)
 obtain ⟨w, h, p, d, w', h', p', d', q, hd, hd', q1, q2, he⟩ := twoImages_ev b 0 hB (by omega) (by omega)
 have hS := spec_ChangedBoxes_ev w h p d w' h' p' d' (by omega) (by omega)
 have hlen := chBoxes_len w h p d w' h' p' d'
 obtain ⟨x, hx, x0, x1⟩ := pick_in b q 4 (by omega) hB (by omega) (by omega)
 by_cases c : x = 0
 ·obtain ⟨X, Y, W, H, hbx⟩ := anyBox_any b (q + 1) hB (by omega) (by omega)
  refine ⟨w, h, p, d, w', h', p', d', chBoxes w h p d w' h' p' d' ++ [⟨X, Y, W, H⟩], hd, hd', by simp; omega, ⟨_, rfl⟩, ?_⟩
  unfold spec_DrawPatchImage.f
  exact ev_now hb (ev_bind he (ev_bind hS (ev_bind hx (ev_pos c (ev_bind hbx (ev_pos (by omega) (Ev.now _)))))))
 ·refine ⟨w, h, p, d, w', h', p', d', chBoxes w h p d w' h' p' d', hd, hd', by omega, ⟨[], by simp⟩, ?_⟩
  unfold spec_DrawPatchImage.f
  exact ev_now hb (ev_bind he (ev_bind hS (ev_bind hx (ev_neg c (Ev.now _)))))
theorem gap_step {x y : Int} (hx : 0 ≤ x ∧ x ≤ 255) (hy : 0 ≤ y ∧ y ≤ 255) : wrap64 (wrap64 (x - y) * wrap64 (x - y)) = (x - y) * (x - y) ∧ 0 ≤ (x - y) * (x - y) ∧ (x - y) * (x - y) ≤ 65025 := by
 rw [w64 (x := x - y) (by omega) (by omega)]
 have key : ∀ z : Int, -255 ≤ z → z ≤ 255 → 0 ≤ z * z ∧ z * z ≤ 65025 := by
  intro z h1 h2
  rcases Int.le_total 0 z with h | h
  ·have a1 := Int.mul_nonneg h h
   have a2 : z * z ≤ 255 * 255 := Int.mul_le_mul h2 h2 h (by omega)
   omega
  ·have e : z * z = (-z) * (-z) := by rw [Int.neg_mul_neg]
   have a1 := Int.mul_nonneg (a := -z) (b := -z) (by omega) (by omega)
   have a2 : (-z) * (-z) ≤ 255 * 255 := Int.mul_le_mul (by omega) (by omega) (by omega) (by omega)
   omega
 have := key (x - y) (by omega) (by omega)
 exact ⟨w64 (by omega) (by omega), this⟩
theorem nx_get {n : Nat} (hn : 1 ≤ n) (d : List Int) (i : Nat) : (nx n d (i / n))[i % n]? = d[i]? := by
 unfold nx
 rw [List.getElem?_take_of_lt (Nat.mod_lt _ hn), List.getElem?_drop]
 congr 1
 rw [Nat.mul_comm]
 exact Nat.div_add_mod i n
theorem img_each {an bn pn : Nat} {d e : List Int} (hd : d.length = (bn * an) * pn) (he : e.length = (bn * an) * pn) (hp : 1 ≤ pn) (l : List S47) (i : Nat) (hi : i < (bn * an) * pn) :
  (imgD (patchPx an pn d e l) an bn)[i]? = d[i]? ∨ (imgD (patchPx an pn d e l) an bn)[i]? = e[i]? := by
 have hj : i / pn < bn * an := Nat.div_lt_of_lt_mul (by rw [Nat.mul_comm]; exact hi)
 have ha : 1 ≤ an := by
  rcases Nat.eq_zero_or_pos an with h | h
  ·subst h; simp at hj
  ·exact h
 have hx : i / pn % an < an := Nat.mod_lt _ ha
 have hy : i / pn / an < bn := Nat.div_lt_of_lt_mul (by rw [Nat.mul_comm]; exact hj)
 have e1 : i / pn / an * an + i / pn % an = i / pn := by rw [Nat.mul_comm]; exact Nat.div_add_mod _ _
 have h := nx_imgD (px := patchPx an pn d e l) (patchPx_len hd he l) hx hy
 rw [e1] at h
 rw [← nx_get hp (imgD (patchPx an pn d e l) an bn) i, ← nx_get hp d i, ← nx_get hp e i, h]
 unfold patchPx
 rw [e1]
 split
 ·exact .inr rfl
 ·exact .inl rfl
theorem twice_px {an bn pn : Nat} {d e : List Int} (hd : d.length = (bn * an) * pn) (he : e.length = (bn * an) * pn) (l : List S47) : imgD (patchPx an pn (imgD (patchPx an pn d e l) an bn) e l) an bn = imgD (patchPx an pn d e l) an bn := by
 refine imgD_congr (fun x y hx hy => ?_)
 have h := nx_imgD (px := patchPx an pn d e l) (patchPx_len hd he l) hx hy
 show (if l.any (fun r => inBx r x y) = true then nx pn e (y * an + x) else nx pn (imgD (patchPx an pn d e l) an bn) (y * an + x)) = _
 rw [h]
 unfold patchPx
 split <;> rfl
theorem gap_less (a c b : List Int) (ha : ∀ n ∈ a, 0 ≤ n ∧ n ≤ 255) (hc : ∀ n ∈ c, 0 ≤ n ∧ n ≤ 255) (hb : ∀ n ∈ b, 0 ≤ n ∧ n ≤ 255) (hl : a.length = b.length) (hl' : c.length = b.length) (hm : b.length ≤ 1024) (hs : ∀ i, i < b.length → c[i]? = a[i]? ∨ c[i]? = b[i]?) : ∀ i, i ≤ b.length → 0 ≤ gapTo c b i ∧ gapTo c b i ≤ gapTo a b i ∧ gapTo a b i ≤ i * 65025
 | 0, _ => ⟨Int.le_refl _, Int.le_refl _, by simp [gapTo]⟩
 | i + 1, hi => by
  obtain ⟨h0, h1, h2⟩ := gap_less a c b ha hc hb hl hl' hm hs i (by omega)
  have r : ∀ t : List Int, (ht : i < t.length) → rd t (i : Int) = t[i] := fun t ht => by simp [rd, List.getD_eq_getElem?_getD, ht]
  have ia : i < a.length := by omega
  have ib : i < b.length := by omega
  have ic : i < c.length := by omega
  obtain ⟨a1, a2, a3⟩ := gap_step (ha a[i] (List.getElem_mem ia)) (hb b[i] (List.getElem_mem ib))
  obtain ⟨c1, c2, c3⟩ := gap_step (hc c[i] (List.getElem_mem ic)) (hb b[i] (List.getElem_mem ib))
  have key : (c[i] - b[i]) * (c[i] - b[i]) ≤ (a[i] - b[i]) * (a[i] - b[i]) := by
   rcases hs i ib with h | h
   ·rw [List.getElem?_eq_getElem ic, List.getElem?_eq_getElem ia] at h
    rw [Option.some.inj h]; exact Int.le_refl _
   ·rw [List.getElem?_eq_getElem ic, List.getElem?_eq_getElem ib] at h
    rw [Option.some.inj h, Int.sub_self, Int.zero_mul]; exact a2
  have ea : gapTo a b (i + 1) = gapTo a b i + (a[i] - b[i]) * (a[i] - b[i]) := by
   show wrap64 (gapTo a b i + wrap64 (wrap64 (rd a i - rd b i) * wrap64 (rd a i - rd b i))) = _
   rw [r a ia, r b ib, a1]
   exact w64 (by omega) (by omega)
  have ec : gapTo c b (i + 1) = gapTo c b i + (c[i] - b[i]) * (c[i] - b[i]) := by
   show wrap64 (gapTo c b i + wrap64 (wrap64 (rd c i - rd b i) * wrap64 (rd c i - rd b i))) = _
   rw [r c ic, r b ib, c1]
   exact w64 (by omega) (by omega)
  rw [ea, ec]
  refine ⟨by omega, by omega, ?_⟩
  have : ((i + 1 : Nat) : Int) = (i : Int) + 1 := by omega
  rw [this]
  omega
theorem twice_all {a b p : Int} {d e : List Int} {a' b' p' : Int} {l : List S47} (h : (patchV a b p d a' b' p' e l).2.2.2.2 = true) :
  ∃ D, patchV a b p d a' b' p' e l = (a, b, p, D, true) ∧ D.length ≤ 1024 ∧ d.length ≤ 1024 ∧ patchV a b p D a' b' p' e l = (a, b, p, D, true) ∧ gapV a b p D a' b' p' e ≤ gapV a b p d a' b' p' e := by
 unfold patchV at h
 split at h
 ·rename_i hc
  have hc0 := hc
  obtain ⟨hs, hl, hall⟩ := hc
  obtain ⟨c1, c2, rfl, rfl, rfl⟩ := (sameV_iff _ _ _ _ _ _ _ _).1 hs
  have b1 := ((validI_iff _ _ _ _).1 c1)
  have b2 := ((validI_iff _ _ _ _).1 c2)
  obtain ⟨an, bn, pn, rfl, rfl, rfl, q1, q2, q3, q4, q5, q6, q7⟩ := nat_of c1
  obtain ⟨_, _, _, f1, f2, f3, _, _, _, _, _, _, q8⟩ := nat_of c2
  have f1 := Int.ofNat.inj f1
  have f2 := Int.ofNat.inj f2
  have f3 := Int.ofNat.inj f3
  subst f1 f2 f3
  have hDl : (imgD (patchPx an pn d e l) an bn).length = (bn * an) * pn := imgD_length (patchPx_len q7 q8 l)
  have hsm := small q2 q4 q6
  have hE := img_each q7 q8 q5 l
  have hT := twice_px (bn := bn) q7 q8 l
  obtain ⟨D, hD⟩ : ∃ D, D = imgD (patchPx an pn d e l) an bn := ⟨_, rfl⟩
  rw [← hD] at hDl hE hT
  have hB : ∀ n ∈ D, 0 ≤ n ∧ n ≤ 255 := by
   intro n hn
   obtain ⟨i, hi, rfl⟩ := List.mem_iff_getElem.1 hn
   rcases hE i (by omega) with h | h
   ·rw [List.getElem?_eq_getElem hi, List.getElem?_eq_getElem (by omega)] at h
    rw [Option.some.inj h]; exact b1.2.2 _ (List.getElem_mem _)
   ·rw [List.getElem?_eq_getElem hi, List.getElem?_eq_getElem (by omega)] at h
    rw [Option.some.inj h]; exact b2.2.2 _ (List.getElem_mem _)
  have hv : validI an bn pn D = true := (validI_iff _ _ _ _).2 ⟨b1.1, by rw [← b1.2.1, hDl, q7], hB⟩
  have hs' : sameV an bn pn D an bn pn e = true := (sameV_iff _ _ _ _ _ _ _ _).2 ⟨hv, c2, rfl, rfl, rfl⟩
  refine ⟨D, ?_, by omega, by omega, ?_, ?_⟩
  ·unfold patchV
   rw [if_pos hc0, Int.toNat_natCast, Int.toNat_natCast, Int.toNat_natCast, hD]
  ·unfold patchV
   rw [if_pos ⟨hs', hl, hall⟩, Int.toNat_natCast, Int.toNat_natCast, Int.toNat_natCast, hT]
  ·unfold gapV
   rw [if_pos hs, if_pos hs']
   have hg := gap_less d D e b1.2.2 hB b2.2.2 (by omega) (by omega) (by omega) (fun i hi => hE i (by omega)) e.length (Nat.le_refl _)
   rw [show D.length = e.length by omega, show d.length = e.length by omega]
   exact hg.2.1
 ·cases h
theorem FnPatchImageTwice : laws_FnPatchImageTwice.Pure := by
 intro code _ _ hw
 apply Ev.rounds
 unfold laws_FnPatchImageTwice.f
 by_cases c : (code.length : Int) > 1048576
 ·exact ev_pos c (Ev.now true)
 refine ev_neg c ?_
 obtain ⟨w, h, p, d, w', h', p', d', l, hdl, hdl', hll, _, hd⟩ := drawPatch code hw
 have hI := impl_PatchImage_ev w h p d w' h' p' d' l (by omega)
 have hS := spec_PatchImage_ev w h p d w' h' p' d' l (by omega) (by omega) (by omega)
 cases hok : (patchV w h p d w' h' p' d' l).2.2.2.2 with
 | false =>
  have hV : patchV w h p d w' h' p' d' l = (0, 0, 0, [], false) := by
   unfold patchV at hok ⊢
   split at hok
   ·cases hok
   ·rename_i hc; rw [if_neg hc]
  rw [hV] at hI hS
  have heq := ev_val (equalImage_ev 0 0 0 [] 0 0 0 [] (by simp)) (decide_eq_true ⟨rfl, rfl, rfl, rfl⟩)
  refine ev_bind hd (ev_bind hI (ev_bind hS (ev_bind heq (ev_pos rfl ?_))))
  refine ev_neg (by simp) ?_
  refine Ev.step (f := fun k => (laws_equalImage.f k 0 0 0 [] 0 0 0 []).bind fun t => if t = true then some (false == false) else some false) (fun k => ?_) (ev_bind heq (ev_pos rfl (ev_const rfl)))
  simp only [laws_FnPatchImageTwice.j0, Bool.not_false]
  rw [if_pos trivial]
 | true =>
  obtain ⟨D, e1, hDl, _, e2, hg⟩ := twice_all hok
  rw [e1] at hI hS
  have heq := ev_val (equalImage_ev w h p D w h p D (by omega)) (decide_eq_true ⟨rfl, rfl, rfl, rfl⟩)
  have hI2 := impl_PatchImage_ev w h p D w' h' p' d' l (by omega)
  rw [e2] at hI2
  have hg1 := impl_GapOf_ev w h p D w' h' p' d' (by omega)
  have hg2 := impl_GapOf_ev w h p d w' h' p' d' (by omega)
  refine ev_bind hd (ev_bind hI (ev_bind hS (ev_bind heq (ev_pos rfl ?_))))
  refine ev_neg (by simp) ?_
  refine Ev.step (f := fun k => (impl_PatchImage.f k w h p D w' h' p' d' l).bind fun u => if u.2.2.2.2 = true then ((laws_equalImage.f k u.1 u.2.1 u.2.2.1 u.2.2.2.1 w h p D).bind fun z => if z = true then ((impl_GapOf.f k w h p D w' h' p' d').bind fun x => (impl_GapOf.f k w h p d w' h' p' d').bind fun y => some (decide (x ≤ y))) else some false) else some false) (fun k => ?_)
   (ev_bind hI2 (ev_pos rfl (ev_bind heq (ev_pos rfl (ev_bind hg1 (ev_bind hg2 (ev_val (Ev.now _) (decide_eq_true hg))))))))
  simp only [laws_FnPatchImageTwice.j0, Bool.not_true]
  rw [if_neg (by simp)]
end Go.Proofs.Ytnofkbbcbpjhfaa.Pure

/- The head of the translation reads as a plain cut. -/
namespace Go.Proofs.Ytnofkbbcbpjhfaa.Head
set_option maxRecDepth 100000
theorem wordsSigns_word (w r : List Char) (h : w.all (fun c => !(c == Char.ofNat 32)) = true) : wordsSigns (w ++ Char.ofNat 32 :: r) = w :: wordsSigns r := by
  induction w with
  | nil => rfl
  | cons c w ih =>
    simp only [List.all_cons, Bool.and_eq_true, Bool.not_eq_true', beq_eq_false_iff_ne, ne_eq] at h
    have h1 := ih (by simpa using h.2)
    rw [List.cons_append, wordsSigns.eq_3 c _ h.1, h1]
def w1 : List Char := [104, 97, 114, 110, 101, 115, 115].map Char.ofNat
def w2 : List Char := [98, 98, 56, 56, 48, 50, 51, 48, 99, 56, 98, 97, 54, 51, 51, 51, 48, 101, 54, 53, 56, 97, 98, 51, 97, 51, 99, 100, 54, 102, 98, 98, 55, 101, 51, 50, 99, 48, 56, 52, 55, 54, 49, 49, 100, 50, 51, 56, 55, 100, 54, 48, 49, 99, 100, 97, 51, 102, 50, 98, 48, 57, 53, 101].map Char.ofNat
def w3 : List Char := [99, 117, 116].map Char.ofNat
def w4 : List Char := [97, 116, 32, 108, 111, 111, 112, 46, 101, 120, 97, 109, 112, 108, 101, 47, 112, 105, 120, 101, 108, 119, 111, 114, 107, 115, 47, 108, 97, 119, 115, 46, 70, 110, 69, 120, 97, 99, 116, 71, 97, 112, 79, 102, 32, 108, 111, 111, 112, 46, 101, 120, 97, 109, 112, 108, 101, 47, 112, 105, 120, 101, 108, 119, 111, 114, 107, 115, 47, 108, 97, 119, 115, 46, 70, 110, 71, 97, 112, 79, 102, 32, 108, 111, 111, 112, 46, 101, 120, 97, 109, 112, 108, 101, 47, 112, 105, 120, 101, 108, 119, 111, 114, 107, 115, 47, 108, 97, 119, 115, 46, 70, 110, 69, 120, 97, 99, 116, 84, 105, 108, 101, 66, 111, 120, 101, 115, 32, 108, 111, 111, 112, 46, 101, 120, 97, 109, 112, 108, 101, 47, 112, 105, 120, 101, 108, 119, 111, 114, 107, 115, 47, 108, 97, 119, 115, 46, 70, 110, 84, 105, 108, 101, 66, 111, 120, 101, 115, 32, 108, 111, 111, 112, 46, 101, 120, 97, 109, 112, 108, 101, 47, 112, 105, 120, 101, 108, 119, 111, 114, 107, 115, 47, 108, 97, 119, 115, 46, 70, 110, 69, 120, 97, 99, 116, 68, 105, 114, 116, 121, 84, 105, 108, 101, 115, 32, 108, 111, 111, 112, 46, 101, 120, 97, 109, 112, 108, 101, 47, 112, 105, 120, 101, 108, 119, 111, 114, 107, 115, 47, 108, 97, 119, 115, 46, 70, 110, 68, 105, 114, 116, 121, 84, 105, 108, 101, 115, 32, 108, 111, 111, 112, 46, 101, 120, 97, 109, 112, 108, 101, 47, 112, 105, 120, 101, 108, 119, 111, 114, 107, 115, 47, 108, 97, 119, 115, 46, 70, 110, 69, 120, 97, 99, 116, 77, 101, 114, 103, 101, 80, 108, 97, 110, 101, 115, 32, 108, 111, 111, 112, 46, 101, 120, 97, 109, 112, 108, 101, 47, 112, 105, 120, 101, 108, 119, 111, 114, 107, 115, 47, 108, 97, 119, 115, 46, 70, 110, 69, 120, 97, 99, 116, 67, 111, 118, 101, 114, 73, 109, 97, 103, 101, 32, 108, 111, 111, 112, 46, 101, 120, 97, 109, 112, 108, 101, 47, 112, 105, 120, 101, 108, 119, 111, 114, 107, 115, 47, 108, 97, 119, 115, 46, 70, 110, 67, 111, 118, 101, 114, 73, 109, 97, 103, 101, 32, 108, 111, 111, 112, 46, 101, 120, 97, 109, 112, 108, 101, 47, 112, 105, 120, 101, 108, 119, 111, 114, 107, 115, 47, 108, 97, 119, 115, 46, 70, 110, 69, 120, 97, 99, 116, 70, 108, 97, 116, 116, 101, 110, 76, 97, 121, 101, 114, 115, 32, 108, 111, 111, 112, 46, 101, 120, 97, 109, 112, 108, 101, 47, 112, 105, 120, 101, 108, 119, 111, 114, 107, 115, 47, 108, 97, 119, 115, 46, 70, 110, 70, 108, 97, 116, 116, 101, 110, 76, 97, 121, 101, 114, 115, 32, 108, 111, 111, 112, 46, 101, 120, 97, 109, 112, 108, 101, 47, 112, 105, 120, 101, 108, 119, 111, 114, 107, 115, 47, 108, 97, 119, 115, 46, 70, 110, 70, 108, 97, 116, 116, 101, 110, 76, 97, 121, 101, 114, 115, 72, 105, 100, 100, 101, 110, 32, 108, 111, 111, 112, 46, 101, 120, 97, 109, 112, 108, 101, 47, 112, 105, 120, 101, 108, 119, 111, 114, 107, 115, 47, 108, 97, 119, 115, 46, 70, 110, 69, 120, 97, 99, 116, 80, 97, 116, 99, 104, 73, 109, 97, 103, 101, 32, 108, 111, 111, 112, 46, 101, 120, 97, 109, 112, 108, 101, 47, 112, 105, 120, 101, 108, 119, 111, 114, 107, 115, 47, 108, 97, 119, 115, 46, 70, 110, 80, 97, 116, 99, 104, 73, 109, 97, 103, 101, 84, 119, 105, 99, 101, 32, 108, 111, 111, 112, 46, 101, 120, 97, 109, 112, 108, 101, 47, 112, 105, 120, 101, 108, 119, 111, 114, 107, 115, 47, 108, 97, 119, 115, 46, 70, 110, 69, 120, 97, 99, 116, 82, 101, 100, 114, 97, 119, 84, 105, 108, 101, 115, 32, 108, 111, 111, 112, 46, 101, 120, 97, 109, 112, 108, 101, 47, 112, 105, 120, 101, 108, 119, 111, 114, 107, 115, 47, 108, 97, 119, 115, 46, 70, 110, 82, 101, 100, 114, 97, 119, 68, 105, 114, 116, 121, 32, 108, 111, 111, 112, 46, 101, 120, 97, 109, 112, 108, 101, 47, 112, 105, 120, 101, 108, 119, 111, 114, 107, 115, 47, 108, 97, 119, 115, 46, 70, 110, 82, 101, 100, 114, 97, 119, 84, 105, 108, 101, 115].map Char.ofNat
theorem signs0 : Try.prog.initOrder = String.ofList (w1 ++ Char.ofNat 32 :: (w2 ++ Char.ofNat 32 :: (w3 ++ Char.ofNat 32 :: w4))) := by kernel_rfl
theorem behind : behindMainWord (wordsSigns Try.prog.initOrder.toList) = w3 :: wordsSigns w4 := by
  rw [signs0, String.toList_ofList, wordsSigns_word w1 _ (by kernel_rfl), wordsSigns_word w2 _ (by kernel_rfl), wordsSigns_word w3 _ (by kernel_rfl)]
  unfold behindMainWord
  dsimp only
  rw [if_pos (by kernel_rfl)]
theorem strip_cut (R : List (List Char)) : stripLifts liftWords (w3 :: R) = ([], w3 :: R) := by kernel_rfl
theorem mayEnter_of (P : Program) (R : List (List Char)) (h : behindMainWord (wordsSigns P.initOrder.toList) = w3 :: R) (h1 : P.laysLater = false) (h2 : P.bearsReflect = false) (h3 : P.doorFits [] = true) : P.mayEnter = true := by
  unfold Program.mayEnter
  rw [h]
  dsimp only
  rw [strip_cut, h1, h2, h3]
  kernel_rfl
theorem liftsFinal_of (P : Program) (R : List (List Char)) (h : behindMainWord (wordsSigns P.initOrder.toList) = w3 :: R) : P.liftsFinal = false := by
  unfold Program.liftsFinal Program.headLifts
  rw [h]
  dsimp only
  rw [strip_cut]
  kernel_rfl
theorem make_of (P : Program) (R : List (List Char)) (h : behindMainWord (wordsSigns P.initOrder.toList) = w3 :: R) : P.make = some .cut := by
  unfold Program.make
  rw [h]
  kernel_rfl
theorem mayEnter : Try.prog.mayEnter = true := mayEnter_of _ _ behind (by kernel_rfl) (by kernel_rfl) (by kernel_rfl)
theorem liftsFinal : Try.prog.liftsFinal = false := liftsFinal_of _ _ behind
theorem make : Try.prog.make = some .cut := make_of _ _ behind
end Go.Proofs.Ytnofkbbcbpjhfaa.Head

-- PRINTED by print.py: the row of the law laws_FnPatchImageTwice, out of its Pure (the session's) and the printed walk. Not trusted: Lean checks it.
namespace Go.Proofs.Ytnofkbbcbpjhfaa.fnPatchImageTwice
open Go.ChangeShapes Go.WideShapes Go.ChangeAt Go.RowKit
open Go.ChangeMaps (open_string shut_string)
set_option linter.unusedVariables false
theorem own : ownKnob Try.prog.godebug = none := by kernel_rfl
theorem laidOut : laidOutB Try.prog = true := by kernel_rfl
def IsRow (k : IntKind) (w : World) (a : Option Addr) (len cap : Nat) (zs : List Int) : Prop :=
  (a = none ∧ len = 0 ∧ cap = 0 ∧ zs = []) ∨
  ∃ x, a = some x ∧ len ≤ cap ∧ cap ≤ maxLen ∧ zs.length = cap ∧ (∀ i, i < zs.length → w.cell? (x.add i) = some (.int k (zs.getD i 0))) ∧ ∀ n ∈ zs, (Lit.int k n).wf = true
set_option maxRecDepth 100000 in
theorem lifted (os : Os) (started : os.Started) (H : Type) (enc : TypeId × Value → H) :
    ReturnsInHanded {} Try.checked os 16 .any (Rows.fnPatchImageTwiceSpec.pre6 enc Try.prog Try.f16 Rows.fnPatchImageTwiceRow.domain false) (Rows.fnPatchImageTwiceSpec.post enc Try.prog Try.f16 false true false false) := by
  refine returnsInHanded_of_change_sized (C := Try.checked) own started (by kernel_rfl) Try.func16
    (ChangeSpec.witness6 (enc := enc) (C := Try.checked) false ⟨#[], #[.slice none 0 0], []⟩ 8 (by kernel_rfl) (by kernel_rfl) (by kernel_rfl) (by kernel_rfl)) ?_
  intro W base args ds gs before hval0 hW hcnd hsz0 _
  have hsz : (DataW.weightsEach Try.prog (Try.f16.params.toList ++ Rows.fnPatchImageTwiceSpec.plain.varTypes Try.prog) (ds ++ gs)).all (· ≤ reachBytes) = true := hsz0
  have hval : ∀ (j : Nat) t v, Try.f16.params[j]? = some t → args[j]? = some v → Value.okWide Try.prog W .any base t v := hval0
  have hW' := hW
  obtain ⟨p, q, hA0, hV, rfl, hfz, hnd⟩ := hW
  have hA : DataW.TrodAll enc Try.prog W 0 (fun _ => true) true Try.f16.params.toList args.toList ds p := hA0
  rw [Try.params16] at hA hval hsz
  obtain ⟨v0, vs0, d0, ds0, p0, q0, hargs, rfl, rfl, h0, r0⟩ := trodAll_cons hA
  obtain ⟨rfl, rfl, rfl⟩ := trodAll_nil r0
  obtain rfl : args = #[v0] := by cases args; simp_all
  obtain ⟨rfl, rfl⟩ := trodVars_none hV
  obtain ⟨a0, len0, cap0, rfl⟩ := okWide_slice Try.underlying31 (hval 0 31 v0 rfl rfl)
  have k0 := h0
  have lt0 : ∀ x ∈ p0, x.block < W.heap.size := by obtain ⟨m, hm⟩ := k0; exact DataW.trod_lt m _ _ _ hm
  obtain ⟨z0, w0⟩ : ∃ zs, IsRow .u8 W a0 len0 cap0 zs := by
    obtain ⟨fuel, hf⟩ := h0
    rcases open_ints Try.underlying31 Try.underlying5 (by kernel_rfl) hf with ⟨hcs, _⟩ | ⟨x, l, c, zs, hcs, _, hl, hm, hz, _, hcell, hwz⟩
    · simp [Value.cells] at hcs
      obtain ⟨rfl, rfl, rfl⟩ := hcs
      exact ⟨[], .inl ⟨rfl, rfl, rfl, rfl⟩⟩
    · simp [Value.cells] at hcs
      obtain ⟨rfl, rfl, rfl⟩ := hcs
      exact ⟨zs, .inr ⟨_, rfl, hl, hm, by simpa using hz, hcell, hwz⟩⟩
  have y0 : len0 * 1 ≤ 140737488351232 := Go.Proofs.YtnofkbbcbpjhfaaW.PrintWords.sized_ints hsz (j := 0) (t := 31) rfl rfl Try.underlying31 Try.underlying5 (by kernel_rfl) (by kernel_rfl) h0
  clear hA0 hval0 hsz0 hsz
  refine (Q.laws_FnPatchImageTwice.walk Pure.FnPatchImageTwice a0 len0 cap0 z0 W w0 y0).mono fun e W' ⟨he, bel⟩ => ?_
  subst he
  exact ⟨_, rfl, _, _, _, [], _, [], hW', trodAll_mk1 (shut_bool Try.underlying4 _), (trodAll_cons_mk (Below.trod laidOut (by kernel_rfl) (of_decide_eq_true (by kernel_rfl)) k0 bel lt0) trodAll_mk0), rfl, bel.frame _, fun h => by cases h⟩
set_option maxHeartbeats 4000000 in
theorem closed : joinedFacts Try.prog 16 Try.f16 Rows.fnPatchImageTwiceSpec Rows.fnPatchImageTwiceRow = true := by
  unfold joinedFacts
  rw [Head.mayEnter, Head.liftsFinal, Head.make]
  simp only [Bool.and_eq_true]
  repeat' apply And.intro
  all_goals first | exact True.intro | (as_aux_lemma => kernel_rfl)
theorem over : Rows.fnPatchImageTwiceRow.holds Try.pinned (OpenSpec.ofChange Rows.fnPatchImageTwiceSpec) :=
  OpenClaim.holds_of_wide 16 Try.f16 rfl rfl rfl rfl rfl rfl rfl ⟨rfl, rfl, rfl, rfl, rfl⟩ rfl rfl rfl rfl rfl (by kernel_rfl) Try.func16 closed
    (of_decide_eq_true (by kernel_rfl)) (by unfold Func.isWrapper; first | (rw [if_pos (by decide +kernel)]; kernel_rfl) | (rw [if_neg (by decide +kernel)]; exact ⟨rfl, rfl⟩))
    (fun os started H enc _ => lifted os started H enc)
theorem proved : Rows.FnPatchImageTwiceSaid := over
#print axioms proved
end Go.Proofs.Ytnofkbbcbpjhfaa.fnPatchImageTwice
namespace Go.Proofs.Ytnofkbbcbpjhfaa
/-- The row, under a short name, for the claim. -/
theorem fnPatchImageTwice_holds : Rows.FnPatchImageTwiceSaid := fnPatchImageTwice.proved
end Go.Proofs.Ytnofkbbcbpjhfaa
