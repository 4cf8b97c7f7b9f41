/- A part of the proof that the statement FnSimplifyStepsSaid holds, under no condition of its own: Steps that cancel each other are left out, and the image stays what it was: the law FnSimplifySteps over lists of numbers alone. -/
import Derived.Test.YtgccpcnakkioiaaCFnSimplifySteps1
import Derived.Test.YtgccpcnakkioiaaCFnSimplifySteps2
import Derived.Deep.QuietTactic
import Derived.BigQuiet
namespace Go.Proofs.Ytgccpcnakkioiaa.Q
open Go.RowKit Go.Proofs.YtgccpcnakkioiaaW.PrintWords Go.Proofs.YtgccpcnakkioiaaW.PrintLast Go.Proofs.YtgccpcnakkioiaaW.PrintMore
attribute [local go_sem] max2_int min2_int max_two min_two max_three min_three max_four min_four
set_option linter.unusedVariables false
set_option linter.unusedSimpArgs false
open Go.Proofs.YtgccpcnakkioiaaW.PrintWords.Aside0 (mk)
set_option maxHeartbeats 12000000
set_option maxRecDepth 100000
def spec_spoilImage.f (k : Nat) (s0_0 : List Int) (s0_1 : Int) (a1_0 : Int) (a1_1 : Int) (a1_2 : Int) (l1_3 : List Int) : Option (Int × Int × Int × List Int × Int) := (spec_reader_pick.f k s0_0 s0_1 40).bind fun btz0 => (if btz0.1 = 0 then ((spec_reader_one.f k s0_0 btz0.2 (([0, 17, wrap64 (a1_0 + 1)] : List Int))).bind fun btz1 => (some (btz1.1, a1_1, a1_2, l1_3, btz1.2))) else (if btz0.1 = 1 then (if 1 ≤ (l1_3.length : Int) then (some (a1_0, a1_1, a1_2, (l1_3.drop (1 : Int).toNat), btz0.2)) else none) else (if btz0.1 = 2 then ((spec_reader_one.f k s0_0 btz0.2 (([(-1), 256] : List Int))).bind fun btz2 => (if 0 < (l1_3.length : Int) then (some (a1_0, a1_1, a1_2, (l1_3.set (0 : Int).toNat btz2.1), btz2.2)) else none)) else (if btz0.1 = 3 then ((spec_reader_one.f k s0_0 btz0.2 ([0, 5] : List Int)).bind fun btz3 => (some (a1_0, a1_1, btz3.1, l1_3, btz3.2))) else (some (a1_0, a1_1, a1_2, l1_3, btz0.2))))))
theorem spec_spoilImage.calls (k : Nat) (g : Nat) (s0_0 : List Int) (s0_1 : Int) (a1_0 : Int) (a1_1 : Int) (a1_2 : Int) (P1_3_ : Nat → Prop) (u9000_ : Value) (l1_3 : List Int) (r1 : Int) (r2 : Int) (r3 : Int) (r4 : List Int) (r5 : Int) (w0 w : World) (hI : IsS90 w0 w g s0_0 s0_1) (hB : Below w0.heap.size w0 w) (ho1_3 : Kd.R (Kd.int .i64) 3 w w0.heap.size P1_3_ u9000_ l1_3) (h : spec_spoilImage.f k s0_0 s0_1 a1_0 a1_1 a1_2 l1_3 = some (r1, r2, r3, r4, r5)) :
  Calls Try.prog 82 #[.pointer (some ⟨g, 0, none⟩), .agg #[.int .i64 a1_0, .int .i64 a1_1, .int .i64 a1_2, u9000_]] w fun e w' => ∃ v3_ : Value, e = .returned (.agg #[.int .i64 r1, .int .i64 r2, .int .i64 r3, v3_]) ∧ Kd.Q (Kd.int .i64) 3 w' w0.heap.size (fun k_ => (P1_3_ k_ ∨ w.heap.size ≤ k_)) v3_ r4 ∧ IsS90 w0 w' g s0_0 r5 ∧ Below w0.heap.size w0 w' ∧ Kept w w' (fun k_ => (P1_3_ k_) ∨ k_ = g) := by
 have HO1_3 := mk (show Kd.R (Kd.int .i64) 3 w w0.heap.size (fun k_ => (P1_3_ k_ ∨ w.heap.size ≤ k_)) u9000_ l1_3 from Kd.R_mono ho1_3 (fun k_ hk => (.inl hk)))
 have HI0 := mk hI
 clear hI
 have HK := mk (Kept.refl w (fun k_ => (P1_3_ k_) ∨ k_ = g))
 have HB := mk hB
 clear hB
 have H : ((spec_reader_pick.f k s0_0 s0_1 40).bind fun btz0 => (if btz0.1 = 0 then ((spec_reader_one.f k s0_0 btz0.2 (([0, 17, wrap64 (a1_0 + 1)] : List Int))).bind fun btz1 => (some (btz1.1, a1_1, a1_2, l1_3, btz1.2))) else (if btz0.1 = 1 then (if 1 ≤ (l1_3.length : Int) then (some (a1_0, a1_1, a1_2, (l1_3.drop (1 : Int).toNat), btz0.2)) else none) else (if btz0.1 = 2 then ((spec_reader_one.f k s0_0 btz0.2 (([(-1), 256] : List Int))).bind fun btz2 => (if 0 < (l1_3.length : Int) then (some (a1_0, a1_1, a1_2, (l1_3.set (0 : Int).toNat btz2.1), btz2.2)) else none)) else (if btz0.1 = 3 then ((spec_reader_one.f k s0_0 btz0.2 ([0, 5] : List Int)).bind fun btz3 => (some (a1_0, a1_1, btz3.1, l1_3, btz3.2))) else (some (a1_0, a1_1, a1_2, l1_3, btz0.2))))))) = some (r1, r2, r3, r4, r5) := h
 clear h
 replace H := Option.bind_eq_some_iff.mp H
 obtain ⟨⟨tz0, tz1⟩, A30, H⟩ := H
 replace H : (if tz0 = 0 then ((spec_reader_one.f k s0_0 tz1 (([0, 17, wrap64 (a1_0 + 1)] : List Int))).bind fun btz1 => (some (btz1.1, a1_1, a1_2, l1_3, btz1.2))) else (if tz0 = 1 then (if 1 ≤ (l1_3.length : Int) then (some (a1_0, a1_1, a1_2, (l1_3.drop (1 : Int).toNat), tz1)) else none) else (if tz0 = 2 then ((spec_reader_one.f k s0_0 tz1 (([(-1), 256] : List Int))).bind fun btz2 => (if 0 < (l1_3.length : Int) then (some (a1_0, a1_1, a1_2, (l1_3.set (0 : Int).toNat btz2.1), btz2.2)) else none)) else (if tz0 = 3 then ((spec_reader_one.f k s0_0 tz1 ([0, 5] : List Int)).bind fun btz3 => (some (a1_0, a1_1, btz3.1, l1_3, btz3.2))) else (some (a1_0, a1_1, a1_2, l1_3, tz1)))))) = some (r1, r2, r3, r4, r5) := H
 have A3 := mk A30
 clear A30
 by_cases c4 : tz0 = 0
 ·rw [if_pos c4] at H
  have c4b0 : (tz0 == 0) = true := beq_iff_eq.mpr c4
  clear c4
  obtain ⟨yz2, hyz0⟩ : ∃ y_ : List Int, y_ = (([0, 17, wrap64 (a1_0 + 1)] : List Int)) := ⟨_, rfl⟩
  replace H : ((spec_reader_one.f k s0_0 tz1 yz2).bind fun btz1 => (some (btz1.1, a1_1, a1_2, l1_3, btz1.2))) = some (r1, r2, r3, r4, r5) := by (rw [hyz0]; with_reducible exact H)
  have Nyz1 := mk hyz0
  clear hyz0
  replace H := Option.bind_eq_some_iff.mp H
  obtain ⟨⟨tz3, tz6⟩, A50, H⟩ := H
  replace H : (some (tz3, a1_1, a1_2, l1_3, tz6)) = some (r1, r2, r3, r4, r5) := H
  have A5 := mk A50
  clear A50
  simp only [Option.some.injEq, Prod.mk.injEq] at H
  obtain ⟨rfl, rfl, rfl, rfl, rfl⟩ := H
  obtain ⟨Ao6, co6, eo6⟩ := Kd.R_slice HO1_3.out
  subst eo6
  go_enter Try.func82, Try.ntmps82
  go_wp2_with (first | ((with_reducible refine gate_dst (N := 3) rfl ?_); refine box_event (by rfl) (N := 3) (by rfl) (cs := #[.int .i64 a1_0, .int .i64 a1_1, .int .i64 a1_2, .slice Ao6 l1_3.length co6]) (t := 28) (by go_simp; done) ?_; intro gbz1 hg w7 hbox hb; replace HO1_3 := mk (Kd.R_below HO1_3.out hb); have BKz0 := mk (hbox); have GWz1 := mk (by rw [hg]; exact HK.out.1 : w.heap.size ≤ gbz1); replace HK := mk (Kept.below (S := (fun k_ => (P1_3_ k_) ∨ k_ = g)) HK.out hb); have GEz1 := mk ((by rw [hg]; exact (below_size HB.out) : w0.heap.size ≤ gbz1)); replace HB := mk (below_step HB.out hb); have NBz4 := mk ((by rw [hg]; exact Nat.ne_of_lt (IsS90.lt (show IsS90 w0 _ g s0_0 s0_1 from by exact HI0.out)) : g ≠ gbz1)); have NBz0 := mk ((by rw [hg]; exact Nat.ne_of_gt (IsS90.lt (show IsS90 w0 _ g s0_0 s0_1 from by exact HI0.out)) : gbz1 ≠ g)); replace HI0 := mk (IsS90.below HI0.out hb); clear hb hbox hg) | ((with_reducible refine gate_dst (N := 4) rfl ?_); refine box_event (by rfl) (N := 4) (by rfl) (cs := #[.int .i64 0, .int .i64 0, .int .i64 0, .slice none 0 0]) (t := 28) (by go_simp; done) ?_; intro gbz0 hg w8 hbox hb; replace HO1_3 := mk (Kd.R_below HO1_3.out hb); have BKz1 := mk (hbox); have GWz0 := mk (by rw [hg]; exact HK.out.1 : w.heap.size ≤ gbz0); replace HK := mk (Kept.below (S := (fun k_ => (P1_3_ k_) ∨ k_ = g)) HK.out hb); have GEz0 := mk ((by rw [hg]; exact (below_size HB.out) : w0.heap.size ≤ gbz0)); replace HB := mk (below_step HB.out hb); have NBz2 := mk ((by rw [hg]; exact Nat.ne_of_gt (blk_lt BKz0.out) : gbz0 ≠ gbz1)); replace BKz0 := mk (blk_below BKz0.out hb); have NBz3 := mk ((by rw [hg]; exact Nat.ne_of_lt (IsS90.lt (show IsS90 w0 _ g s0_0 s0_1 from by exact HI0.out)) : g ≠ gbz0)); have NBz1 := mk ((by rw [hg]; exact Nat.ne_of_gt (IsS90.lt (show IsS90 w0 _ g s0_0 s0_1 from by exact HI0.out)) : gbz0 ≠ g)); replace HI0 := mk (IsS90.below HI0.out hb); clear hb hbox hg) | ((with_reducible refine gate_callee (f := 90) rfl ?_); refine goesL_ (some 6) rfl rfl Try.func90 (by kernel_rfl) rfl #[.pointer (some ⟨g, 0, none⟩), .int .i64 40] rfl (by (try simp only [List.map_toArray, List.map_cons, List.map_nil]); rfl) ?_; (with_reducible refine (spec_reader_pick.calls k g s0_0 s0_1 40 tz0 tz1 w0 _ ?side1 ?side2 A3.out).mono ?_); (case side1 => repeat (with_reducible exact HI0.out)); (case side2 => repeat (with_reducible exact HB.out)); rintro e w9 ⟨rfl, hi, hb, hk⟩; refine ⟨_, rfl, ?_⟩; replace HO1_3 := mk (Kd.R_mono (Kd.R_keep (IsS90.apart (show IsS90 w0 _ g s0_0 s0_1 from by exact HI0.out) HO1_3.out (by decide)) hk (fun _ h => h.2)) (fun _ h => h.1)); replace BKz0 := mk (KeepBut.blk hk (g' := gbz1) (o := .cells #[.int .i64 a1_0, .int .i64 a1_1, .int .i64 a1_2, .slice Ao6 l1_3.length co6] 28 (0, 0)) BKz0.out NBz0.out (by simp)); replace BKz1 := mk (KeepBut.blk hk (g' := gbz0) (o := .cells #[.int .i64 0, .int .i64 0, .int .i64 0, .slice none 0 0] 28 (0, 0)) BKz1.out NBz1.out (by simp)); replace HK := mk (Kept.of_keep (S := (fun k_ => (P1_3_ k_) ∨ k_ = g)) HK.out hk (.inl (.inr rfl))); replace HB := mk (hb); replace HI0 := mk (hi); (try clear hb); (try clear hk); (try clear hi); have hnc10 := NBz2.out; have hnb11 := NBz0.out; have hnc11 := NBz4.out; have hcz12_0 : w9.cell? ⟨gbz1, 0, none⟩ = some (.int .i64 a1_0) := (blk_cell BKz0.out 0).trans rfl) | ((with_reducible refine gate_dst (N := 13) rfl ?_); refine Kd.R_lit (Kd.int .i64) _ 3 ?hg (N := 13) ?hd (xs := ([0, 17, wrap64 (a1_0 + 1)] : List Int)) (inner := [.int .i64 0, .int .i64 17, .int .i64 (wrap64 (a1_0 + 1))]) (ok := fun _ => True) (okp := fun _ => True) ?hr ?hp (fun _ hk => hk) trivial (Below.refl _ _) (Nat.le_refl _) (by simp) ?_; (case hd => rfl); (case hg => rfl); (case hr => (go_simp; done)); (case hp => exact (Reps.one (show Kd.M (Kd.int .i64) _ _ _ 0 [.int .i64 0] from rfl) (Reps.one (show Kd.M (Kd.int .i64) _ _ _ 17 [.int .i64 17] from rfl) (Reps.one (show Kd.M (Kd.int .i64) _ _ _ (wrap64 (a1_0 + 1)) [.int .i64 (wrap64 (a1_0 + 1))] from rfl) (Reps.none _ _))))); intro vz0 w13 ho14 hb hg_ hnew_; clear hg_ hnew_; (rw [← Nyz1.out] at ho14); have HOz1 := mk (Kd.R_lower (Kd.R_new' (Kd.R_newM (M := fun k_ => (P1_3_ k_ ∨ w.heap.size ≤ k_)) ho14 HK.out.1 (fun k_ h_ => .inr h_)) (Kd.R_lt HO1_3.out)) (below_size HB.out)); replace HO1_3 := mk (Kd.R_elder' HO1_3.out (Kd.R_base ho14) hb); replace HI0 := mk (IsS90.below HI0.out hb); replace BKz0 := mk (blk_below BKz0.out hb); replace BKz1 := mk (blk_below BKz1.out hb); replace HK := mk (Kept.below (S := (fun k_ => (P1_3_ k_) ∨ k_ = g)) HK.out hb); replace HB := mk (below_step HB.out hb); clear hb ho14; obtain ⟨Ao15, co15, eo15⟩ := Kd.R_slice HOz1.out; subst eo15) | ((with_reducible refine gate_callee (f := 85) rfl ?_); refine goesL_ (some 14) rfl rfl Try.func85 (by kernel_rfl) rfl #[.pointer (some ⟨g, 0, none⟩), .slice Ao15 yz2.length co15] rfl (by (try simp only [List.map_toArray, List.map_cons, List.map_nil]); rfl) ?_; (with_reducible refine (spec_reader_one.calls k g s0_0 tz1 _ _ yz2 tz3 tz6 w0 _ ?side1 ?side2 ?side3 ?side4 ?side5 A5.out).mono ?_); (case side1 => repeat (with_reducible exact HI0.out)); (case side2 => repeat (with_reducible exact HB.out)); (case side3 => repeat (exact (Kd.R_reads' HOz1.out).2.2)); (case side4 => exact (Kd.R_reads' HOz1.out).2.1); (case side5 => exact far_slice (IsS90.own_ne HI0.out HOz1.out (by decide))); rintro e w16 ⟨rfl, hi, hb, hk⟩; refine ⟨_, rfl, ?_⟩; have n0_ := mk (Kd.R_mono (Kd.R_keep (IsS90.apart (show IsS90 w0 _ g s0_0 tz1 from by exact HI0.out) HO1_3.out (by decide)) hk (fun _ h => h.2)) (fun _ h => h.1)); have n1_ := mk (KeepBut.blk hk (g' := gbz1) (o := .cells #[.int .i64 a1_0, .int .i64 a1_1, .int .i64 a1_2, .slice Ao6 l1_3.length co6] 28 (0, 0)) BKz0.out NBz0.out (by simp)); have n2_ := mk (KeepBut.blk hk (g' := gbz0) (o := .cells #[.int .i64 0, .int .i64 0, .int .i64 0, .slice none 0 0] 28 (0, 0)) BKz1.out NBz1.out (by simp)); have n4_ := mk (Kept.of_keep (S := (fun k_ => (P1_3_ k_) ∨ k_ = g)) HK.out hk (.inl (.inr rfl))); have n5_ := mk (hb); have n6_ := mk (hi); clear HO1_3; clear BKz0; clear BKz1; clear HOz1; clear HK; clear HB; clear HI0; have HO1_3 := n0_; have BKz0 := n1_; have BKz1 := n2_; have HK := n4_; have HB := n5_; have HI0 := n6_; (try clear hb); (try clear hk); (try clear hi); have hcz17_0 : w16.cell? ⟨gbz1, 0, none⟩ = some (.int .i64 a1_0) := (blk_cell BKz0.out 0).trans rfl; have hcz17_1 : w16.cell? ⟨gbz1, 1, none⟩ = some (.int .i64 a1_1) := (blk_cell BKz0.out 1).trans rfl; have hcz17_2 : w16.cell? ⟨gbz1, 2, none⟩ = some (.int .i64 a1_2) := (blk_cell BKz0.out 2).trans rfl; have hcz17_3 : w16.cell? ⟨gbz1, 3, none⟩ = some (.slice Ao6 l1_3.length co6) := (blk_cell BKz0.out 3).trans rfl; have hfz17_0 := blk_frozen BKz0.out 0; have hnb18 := NBz1.out; have hnc18 := NBz3.out; have hcz19_0 : w16.cell? ⟨gbz0, 0, none⟩ = some (.int .i64 0) := (blk_cell BKz1.out 0).trans rfl; have hcz19_1 : w16.cell? ⟨gbz0, 1, none⟩ = some (.int .i64 0) := (blk_cell BKz1.out 1).trans rfl; have hcz19_2 : w16.cell? ⟨gbz0, 2, none⟩ = some (.int .i64 0) := (blk_cell BKz1.out 2).trans rfl; have hcz19_3 : w16.cell? ⟨gbz0, 3, none⟩ = some (.slice none 0 0) := (blk_cell BKz1.out 3).trans rfl; have hfz19_0 := blk_frozen BKz1.out 0; have hfz19_1 := blk_frozen BKz1.out 1; have hfz19_2 := blk_frozen BKz1.out 2; have hfz19_3 := blk_frozen BKz1.out 3))
  refine bodyPost_ret (results_cell_row rfl _ _ gbz0 28 #[.int .i64 tz3, .int .i64 a1_1, .int .i64 a1_2, .slice Ao6 l1_3.length co6] (0, 0) _ rfl (by refine blk_put (cs := #[.int .i64 tz3, .int .i64 a1_1, .int .i64 a1_2, .slice none 0 0]) ?_ 3 _ rfl; refine blk_put (cs := #[.int .i64 tz3, .int .i64 a1_1, .int .i64 0, .slice none 0 0]) ?_ 2 _ rfl; refine blk_put (cs := #[.int .i64 tz3, .int .i64 0, .int .i64 0, .slice none 0 0]) ?_ 1 _ rfl; refine blk_put (cs := #[.int .i64 0, .int .i64 0, .int .i64 0, .slice none 0 0]) ?_ 0 _ rfl; refine blk_far ?_ NBz2.out _; exact BKz1.out) Try.underlying28 rfl (by kernel_rfl)) rfl ?_
  exact ⟨_, by rfl, Kd.Q_of_R (by exact Kd.R_mono (Kd.R_far (p := ⟨gbz0, 3, none⟩) (Kd.R_far (p := ⟨gbz0, 2, none⟩) (Kd.R_far (p := ⟨gbz0, 1, none⟩) (Kd.R_far (p := ⟨gbz0, 0, none⟩) (Kd.R_far (p := ⟨gbz1, 0, none⟩) (Kd.R_types (Kd.R_types HO1_3.out BKz0.out (by decide)) BKz1.out (by decide)) (fun _ hk => hk.1.2) (.int .i64 tz3)) (fun _ hk => hk.2) (.int .i64 tz3)) (fun _ hk => hk.2) (.int .i64 a1_1)) (fun _ hk => hk.2) (.int .i64 a1_2)) (fun _ hk => hk.2) (.slice Ao6 l1_3.length co6)) (fun _ hk => hk.1.1.1)), by repeat (with_reducible first | exact HI0.out | refine IsS90.far ?_ NBz4.out _ | refine IsS90.far ?_ NBz3.out _), by repeat (with_reducible first | exact HB.out | refine below_set ?_ GEz1.out | refine below_set ?_ GEz0.out), by repeat ((with_reducible first | exact HK.out | refine Kept.setCell ?_ (.inr GWz1.out) _ | refine Kept.setCell ?_ (.inr GWz0.out) _))⟩
 rw [if_neg c4] at H
 have c4b0 : (tz0 == 0) = false := beq_eq_false_iff_ne.mpr c4
 have c4b1 : (tz0 != 0) = true := bne_iff_ne.mpr c4
 by_cases c20 : tz0 = 1
 ·rw [if_pos c20] at H
  have c20b0 : (tz0 == 1) = true := beq_iff_eq.mpr c20
  have c20b1 : (tz0 != 1) = false := bne_eq_false_iff_eq.mpr c20
  clear c20
  by_cases c21 : 1 ≤ (l1_3.length : Int)
  ·rw [if_pos c21] at H
   have c21b1 : decide (1 ≤ (l1_3.length : Int)) = true := decide_eq_true c21
   clear c21
   obtain ⟨yz0, hyz1⟩ : ∃ y_ : List Int, y_ = (l1_3.drop (1 : Int).toNat) := ⟨_, rfl⟩
   replace H : (some (a1_0, a1_1, a1_2, yz0, tz1)) = some (r1, r2, r3, r4, r5) := by (rw [hyz1]; with_reducible exact H)
   have Nyz0 := mk hyz1
   clear hyz1
   simp only [Option.some.injEq, Prod.mk.injEq] at H
   obtain ⟨rfl, rfl, rfl, rfl, rfl⟩ := H
   obtain ⟨Ao22, co22, eo22⟩ := Kd.R_slice HO1_3.out
   subst eo22
   go_enter Try.func82, Try.ntmps82
   go_wp2_with (first | ((with_reducible refine gate_dst (N := 3) rfl ?_); refine box_event (by rfl) (N := 3) (by rfl) (cs := #[.int .i64 a1_0, .int .i64 a1_1, .int .i64 a1_2, .slice Ao22 l1_3.length co22]) (t := 28) (by go_simp; done) ?_; intro gbz1 hg w23 hbox hb; replace HO1_3 := mk (Kd.R_below HO1_3.out hb); have BKz0 := mk (hbox); have GWz1 := mk (by rw [hg]; exact HK.out.1 : w.heap.size ≤ gbz1); replace HK := mk (Kept.below (S := (fun k_ => (P1_3_ k_) ∨ k_ = g)) HK.out hb); have GEz1 := mk ((by rw [hg]; exact (below_size HB.out) : w0.heap.size ≤ gbz1)); replace HB := mk (below_step HB.out hb); have NBz4 := mk ((by rw [hg]; exact Nat.ne_of_lt (IsS90.lt (show IsS90 w0 _ g s0_0 s0_1 from by exact HI0.out)) : g ≠ gbz1)); have NBz0 := mk ((by rw [hg]; exact Nat.ne_of_gt (IsS90.lt (show IsS90 w0 _ g s0_0 s0_1 from by exact HI0.out)) : gbz1 ≠ g)); replace HI0 := mk (IsS90.below HI0.out hb); clear hb hbox hg) | ((with_reducible refine gate_dst (N := 4) rfl ?_); refine box_event (by rfl) (N := 4) (by rfl) (cs := #[.int .i64 0, .int .i64 0, .int .i64 0, .slice none 0 0]) (t := 28) (by go_simp; done) ?_; intro gbz0 hg w24 hbox hb; replace HO1_3 := mk (Kd.R_below HO1_3.out hb); have BKz1 := mk (hbox); have GWz0 := mk (by rw [hg]; exact HK.out.1 : w.heap.size ≤ gbz0); replace HK := mk (Kept.below (S := (fun k_ => (P1_3_ k_) ∨ k_ = g)) HK.out hb); have GEz0 := mk ((by rw [hg]; exact (below_size HB.out) : w0.heap.size ≤ gbz0)); replace HB := mk (below_step HB.out hb); have NBz2 := mk ((by rw [hg]; exact Nat.ne_of_gt (blk_lt BKz0.out) : gbz0 ≠ gbz1)); replace BKz0 := mk (blk_below BKz0.out hb); have NBz3 := mk ((by rw [hg]; exact Nat.ne_of_lt (IsS90.lt (show IsS90 w0 _ g s0_0 s0_1 from by exact HI0.out)) : g ≠ gbz0)); have NBz1 := mk ((by rw [hg]; exact Nat.ne_of_gt (IsS90.lt (show IsS90 w0 _ g s0_0 s0_1 from by exact HI0.out)) : gbz0 ≠ g)); replace HI0 := mk (IsS90.below HI0.out hb); clear hb hbox hg) | ((with_reducible refine gate_callee (f := 90) rfl ?_); refine goesL_ (some 6) rfl rfl Try.func90 (by kernel_rfl) rfl #[.pointer (some ⟨g, 0, none⟩), .int .i64 40] rfl (by (try simp only [List.map_toArray, List.map_cons, List.map_nil]); rfl) ?_; (with_reducible refine (spec_reader_pick.calls k g s0_0 s0_1 40 tz0 tz1 w0 _ ?side1 ?side2 A3.out).mono ?_); (case side1 => repeat (with_reducible exact HI0.out)); (case side2 => repeat (with_reducible exact HB.out)); rintro e w25 ⟨rfl, hi, hb, hk⟩; refine ⟨_, rfl, ?_⟩; replace HO1_3 := mk (Kd.R_mono (Kd.R_keep (IsS90.apart (show IsS90 w0 _ g s0_0 s0_1 from by exact HI0.out) HO1_3.out (by decide)) hk (fun _ h => h.2)) (fun _ h => h.1)); replace BKz0 := mk (KeepBut.blk hk (g' := gbz1) (o := .cells #[.int .i64 a1_0, .int .i64 a1_1, .int .i64 a1_2, .slice Ao22 l1_3.length co22] 28 (0, 0)) BKz0.out NBz0.out (by simp)); replace BKz1 := mk (KeepBut.blk hk (g' := gbz0) (o := .cells #[.int .i64 0, .int .i64 0, .int .i64 0, .slice none 0 0] 28 (0, 0)) BKz1.out NBz1.out (by simp)); replace HK := mk (Kept.of_keep (S := (fun k_ => (P1_3_ k_) ∨ k_ = g)) HK.out hk (.inl (.inr rfl))); replace HB := mk (hb); replace HI0 := mk (hi); (try clear hb); (try clear hk); (try clear hi); have hnc26 := NBz2.out; have hnb27 := NBz0.out; have hnc27 := NBz4.out; have hcz28_0 : w25.cell? ⟨gbz1, 0, none⟩ = some (.int .i64 a1_0) := (blk_cell BKz0.out 0).trans rfl; have hcz28_1 : w25.cell? ⟨gbz1, 1, none⟩ = some (.int .i64 a1_1) := (blk_cell BKz0.out 1).trans rfl; have hcz28_2 : w25.cell? ⟨gbz1, 2, none⟩ = some (.int .i64 a1_2) := (blk_cell BKz0.out 2).trans rfl; have hcz28_3 : w25.cell? ⟨gbz1, 3, none⟩ = some (.slice Ao22 l1_3.length co22) := (blk_cell BKz0.out 3).trans rfl; have hfz28_3 := blk_frozen BKz0.out 3; have q29 : (1 : Int) ≤ ((l1_3.length : Int) : Int) := of_decide_eq_true (by (with_reducible assumption)); obtain ⟨i029, hi029, _, hsz29, _⟩ := info_parts info3; have hcut29 := cut_from (P := Try.prog) 22 3 .i64 Try.underlying22 hi029 1 hsz29 Ao22 l1_3.length co22 1 (by omega) q29; have hr29 := Kd.Q_drop (k := (1 : Int).toNat) (Kd.Q_of_R HO1_3.out) (by omega); obtain ⟨A29, hA29⟩ : ∃ A1, A1 = (if co22 = (1 : Int).toNat then Ao22 else (Ao22 : Option Addr).map (·.add ((1 : Int).toNat * 1))) := ⟨_, rfl⟩; obtain ⟨c29, hc29⟩ : ∃ c1, c1 = co22 - (1 : Int).toNat := ⟨_, rfl⟩; have hy29 : yz0.length = l1_3.length - (1 : Int).toNat := (by rw [Nyz0.out, List.length_drop]); rw [← Nyz0.out] at hr29; rw [← hy29, ← hA29, ← hc29] at hcut29; replace hr29 : Kd.Q (Kd.int .i64) 3 w25 w0.heap.size (fun k_ => (P1_3_ k_ ∨ w.heap.size ≤ k_)) (.slice A29 yz0.length c29) yz0 := (by rw [hA29, hc29, hy29]; exact hr29); clear hy29 hi029 hsz29 HO1_3 hA29 hc29; have HOz3 := mk hr29; clear hr29; replace q29 := eq_true q29; have hnb30 := NBz1.out; have hnc30 := NBz3.out; have hcz31_0 : w25.cell? ⟨gbz0, 0, none⟩ = some (.int .i64 0) := (blk_cell BKz1.out 0).trans rfl; have hcz31_1 : w25.cell? ⟨gbz0, 1, none⟩ = some (.int .i64 0) := (blk_cell BKz1.out 1).trans rfl; have hcz31_2 : w25.cell? ⟨gbz0, 2, none⟩ = some (.int .i64 0) := (blk_cell BKz1.out 2).trans rfl; have hcz31_3 : w25.cell? ⟨gbz0, 3, none⟩ = some (.slice none 0 0) := (blk_cell BKz1.out 3).trans rfl; have hfz31_0 := blk_frozen BKz1.out 0; have hfz31_1 := blk_frozen BKz1.out 1; have hfz31_2 := blk_frozen BKz1.out 2; have hfz31_3 := blk_frozen BKz1.out 3))
   refine bodyPost_ret (results_cell_row rfl _ _ gbz0 28 #[.int .i64 a1_0, .int .i64 a1_1, .int .i64 a1_2, .slice A29 yz0.length c29] (0, 0) _ rfl (by refine blk_put (cs := #[.int .i64 a1_0, .int .i64 a1_1, .int .i64 a1_2, .slice none 0 0]) ?_ 3 _ rfl; refine blk_put (cs := #[.int .i64 a1_0, .int .i64 a1_1, .int .i64 0, .slice none 0 0]) ?_ 2 _ rfl; refine blk_put (cs := #[.int .i64 a1_0, .int .i64 0, .int .i64 0, .slice none 0 0]) ?_ 1 _ rfl; refine blk_put (cs := #[.int .i64 0, .int .i64 0, .int .i64 0, .slice none 0 0]) ?_ 0 _ rfl; refine blk_far ?_ NBz2.out _; exact BKz1.out) Try.underlying28 rfl (by kernel_rfl)) rfl ?_
   exact ⟨_, by rfl, by exact Kd.Q_mono (Kd.Q_far (p := ⟨gbz0, 3, none⟩) (Kd.Q_far (p := ⟨gbz0, 2, none⟩) (Kd.Q_far (p := ⟨gbz0, 1, none⟩) (Kd.Q_far (p := ⟨gbz0, 0, none⟩) (Kd.Q_far (p := ⟨gbz1, 3, none⟩) (Kd.Q_types (Kd.Q_types HOz3.out BKz0.out (by decide)) BKz1.out (by decide)) (fun _ hk => hk.1.2) (.slice A29 yz0.length c29)) (fun _ hk => hk.2) (.int .i64 a1_0)) (fun _ hk => hk.2) (.int .i64 a1_1)) (fun _ hk => hk.2) (.int .i64 a1_2)) (fun _ hk => hk.2) (.slice A29 yz0.length c29)) (fun _ hk => hk.1.1), by repeat (with_reducible first | exact HI0.out | refine IsS90.far ?_ NBz4.out _ | refine IsS90.far ?_ NBz3.out _), by repeat (with_reducible first | exact HB.out | refine below_set ?_ GEz1.out | refine below_set ?_ GEz0.out), by repeat ((with_reducible first | exact HK.out | refine Kept.setCell ?_ (.inr GWz1.out) _ | refine Kept.setCell ?_ (.inr GWz0.out) _))⟩
  rw [if_neg c21] at H
  exact absurd H (by simp)
 rw [if_neg c20] at H
 have c20b0 : (tz0 == 1) = false := beq_eq_false_iff_ne.mpr c20
 have c20b1 : (tz0 != 1) = true := bne_iff_ne.mpr c20
 by_cases c32 : tz0 = 2
 ·rw [if_pos c32] at H
  have c32b0 : (tz0 == 2) = true := beq_iff_eq.mpr c32
  clear c32
  obtain ⟨yz1, hyz2⟩ : ∃ y_ : List Int, y_ = (([(-1), 256] : List Int)) := ⟨_, rfl⟩
  replace H : ((spec_reader_one.f k s0_0 tz1 yz1).bind fun btz2 => (if 0 < (l1_3.length : Int) then (some (a1_0, a1_1, a1_2, (l1_3.set (0 : Int).toNat btz2.1), btz2.2)) else none)) = some (r1, r2, r3, r4, r5) := by (rw [hyz2]; with_reducible exact H)
  have Nyz2 := mk hyz2
  clear hyz2
  replace H := Option.bind_eq_some_iff.mp H
  obtain ⟨⟨tz2, tz5⟩, A330, H⟩ := H
  replace H : (if 0 < (l1_3.length : Int) then (some (a1_0, a1_1, a1_2, (l1_3.set (0 : Int).toNat tz2), tz5)) else none) = some (r1, r2, r3, r4, r5) := H
  have A33 := mk A330
  clear A330
  by_cases c34 : 0 < (l1_3.length : Int)
  ·rw [if_pos c34] at H
   have c34b0 : decide (0 < (l1_3.length : Int)) = true := decide_eq_true c34
   clear c34
   obtain ⟨yz4, hyz3⟩ : ∃ y_ : List Int, y_ = (l1_3.set (0 : Int).toNat tz2) := ⟨_, rfl⟩
   replace H : (some (a1_0, a1_1, a1_2, yz4, tz5)) = some (r1, r2, r3, r4, r5) := by (rw [hyz3]; with_reducible exact H)
   have Nyz3 := mk hyz3
   clear hyz3
   simp only [Option.some.injEq, Prod.mk.injEq] at H
   obtain ⟨rfl, rfl, rfl, rfl, rfl⟩ := H
   obtain ⟨Ao36, co36, eo36⟩ := Kd.R_slice HO1_3.out
   subst eo36
   go_enter Try.func82, Try.ntmps82
   try go_wp2_with (first | ((with_reducible refine gate_dst (N := 3) rfl ?_); refine box_event (by rfl) (N := 3) (by rfl) (cs := #[.int .i64 a1_0, .int .i64 a1_1, .int .i64 a1_2, .slice Ao36 l1_3.length co36]) (t := 28) (by go_simp; done) ?_; intro gbz1 hg w37 hbox hb; replace HO1_3 := mk (Kd.R_below HO1_3.out hb); replace HK := mk (Kept.below (S := (fun k_ => (P1_3_ k_) ∨ k_ = g)) HK.out hb); replace HB := mk (below_step HB.out hb); have BKz0 := mk (hbox); have NBz0 := mk ((by rw [hg]; exact Nat.ne_of_gt (IsS90.lt (show IsS90 w0 _ g s0_0 s0_1 from by exact HI0.out)) : gbz1 ≠ g)); replace HI0 := mk (IsS90.below HI0.out hb); clear hb hbox hg) | ((with_reducible refine gate_dst (N := 4) rfl ?_); refine box_event (by rfl) (N := 4) (by rfl) (cs := #[.int .i64 0, .int .i64 0, .int .i64 0, .slice none 0 0]) (t := 28) (by go_simp; done) ?_; intro gbz0 hg w38 hbox hb; replace HO1_3 := mk (Kd.R_below HO1_3.out hb); replace BKz0 := mk (blk_below BKz0.out hb); have BKz1 := mk (hbox); have GWz0 := mk (by rw [hg]; exact HK.out.1 : w.heap.size ≤ gbz0); replace HK := mk (Kept.below (S := (fun k_ => (P1_3_ k_) ∨ k_ = g)) HK.out hb); have GEz0 := mk ((by rw [hg]; exact (below_size HB.out) : w0.heap.size ≤ gbz0)); replace HB := mk (below_step HB.out hb); have NBz3 := mk ((by rw [hg]; exact Nat.ne_of_lt (IsS90.lt (show IsS90 w0 _ g s0_0 s0_1 from by exact HI0.out)) : g ≠ gbz0)); have NBz1 := mk ((by rw [hg]; exact Nat.ne_of_gt (IsS90.lt (show IsS90 w0 _ g s0_0 s0_1 from by exact HI0.out)) : gbz0 ≠ g)); replace HI0 := mk (IsS90.below HI0.out hb); clear hb hbox hg) | ((with_reducible refine gate_callee (f := 90) rfl ?_); refine goesL_ (some 6) rfl rfl Try.func90 (by kernel_rfl) rfl #[.pointer (some ⟨g, 0, none⟩), .int .i64 40] rfl (by (try simp only [List.map_toArray, List.map_cons, List.map_nil]); rfl) ?_; (with_reducible refine (spec_reader_pick.calls k g s0_0 s0_1 40 tz0 tz1 w0 _ ?side1 ?side2 A3.out).mono ?_); (case side1 => repeat (with_reducible exact HI0.out)); (case side2 => repeat (with_reducible exact HB.out)); rintro e w39 ⟨rfl, hi, hb, hk⟩; refine ⟨_, rfl, ?_⟩; replace HO1_3 := mk (Kd.R_mono (Kd.R_keep (IsS90.apart (show IsS90 w0 _ g s0_0 s0_1 from by exact HI0.out) HO1_3.out (by decide)) hk (fun _ h => h.2)) (fun _ h => h.1)); replace BKz0 := mk (KeepBut.blk hk (g' := gbz1) (o := .cells #[.int .i64 a1_0, .int .i64 a1_1, .int .i64 a1_2, .slice Ao36 l1_3.length co36] 28 (0, 0)) BKz0.out NBz0.out (by simp)); replace BKz1 := mk (KeepBut.blk hk (g' := gbz0) (o := .cells #[.int .i64 0, .int .i64 0, .int .i64 0, .slice none 0 0] 28 (0, 0)) BKz1.out NBz1.out (by simp)); replace HK := mk (Kept.of_keep (S := (fun k_ => (P1_3_ k_) ∨ k_ = g)) HK.out hk (.inl (.inr rfl))); replace HB := mk (hb); replace HI0 := mk (hi); (try clear hb); (try clear hk); (try clear hi)))
   replace HO1_3 := mk (Kd.R_drew HO1_3.out)
   replace BKz0 := mk (blk_drew BKz0.out)
   replace BKz1 := mk (blk_drew BKz1.out)
   replace HI0 := mk (IsS90.drew HI0.out)
   replace HK := mk (Kept.drew HK.out)
   replace HB := mk (below_drew1 HB.out)
   refine start_ (n := 7) (S := fun w' => w'.cell? ⟨gbz1, 0, none⟩ = some (.int .i64 a1_0) ∧ w'.cell? ⟨gbz1, 1, none⟩ = some (.int .i64 a1_1) ∧ w'.cell? ⟨gbz1, 2, none⟩ = some (.int .i64 a1_2) ∧ w'.cell? ⟨gbz1, 3, none⟩ = some (.slice Ao36 l1_3.length co36)) (ds := [6]) #[false, false, false, false, false, false, false] (by kernel_rfl) rfl rfl ⟨blk_cell BKz0.out 0, blk_cell BKz0.out 1, blk_cell BKz0.out 2, blk_cell BKz0.out 3⟩ (fun hHeld => ?_)
   generalize w39.drew = w40 at HO1_3 BKz0 BKz1 HI0 HK HB hHeld ⊢
   refine pure_ (i := 0) (N := some 24) (v := ?_) (a' := ?_) #[true, false, false, false, false, false, false] rfl rfl (by kernel_rfl) (fun _ _ _ h => h) (Or.inl ⟨by rfl, ?_⟩) ?_ ?_
   rotate_left
   ·intro w'
    go_simp
    with_reducible rfl
   rotate_left
   ·simp only [Act.put, List.setIfInBounds_toArray, List.set_cons_zero, List.set_cons_succ, i64_w, i32_w]
    rfl
   refine pure_ (i := 2) (N := some 26) (v := ?_) (a' := ?_) #[true, false, true, false, false, false, false] rfl rfl (by kernel_rfl) (fun _ _ _ h => h) (Or.inl ⟨by rfl, ?_⟩) ?_ ?_
   rotate_left
   ·intro w'
    go_simp
    with_reducible rfl
   rotate_left
   ·simp only [Act.put, List.setIfInBounds_toArray, List.set_cons_zero, List.set_cons_succ, i64_w, i32_w]
    rfl
   refine take_ (i := 1) (N := some 25) (v := ?_) (a' := ?_) #[true, true, true, false, false, false, false] rfl rfl (by kernel_rfl) (fun _ _ _ h => h) (Or.inl ⟨by rfl, ?_⟩) hHeld ?_ ?_
   rotate_left
   ·rintro w' ⟨s0, s1, s2, s3⟩
    go_simp
    with_reducible rfl
   rotate_left
   ·simp only [Act.put, List.setIfInBounds_toArray, List.set_cons_zero, List.set_cons_succ, i64_w, i32_w]
    rfl
   refine one_ (i := 3) (N := some 27) #[true, true, true, true, false, false, false] rfl rfl (by kernel_rfl) (by decide) (fun K hK => ?_)
   refine Kd.R_lit_step (Kd.int .i64) _ 3 ?hg (N := 27) ?hd (xs := ([(-1), 256] : List Int)) (inner := [.int .i64 (-1), .int .i64 256]) (ok := fun _ => True) (okp := fun _ => True) ?hr ?hp (fun _ hk => hk) trivial (Below.refl _ _) (Nat.le_refl _) (by simp) ?_; (case hd => rfl); (case hg => rfl); (case hr => (go_simp; done)); (case hp => exact (Reps.one (show Kd.M (Kd.int .i64) _ _ _ (-1) [.int .i64 (-1)] from rfl) (Reps.one (show Kd.M (Kd.int .i64) _ _ _ 256 [.int .i64 256] from rfl) (Reps.none _ _))))
   intro vz1 w41 ho42 hb hg_ hnew_
   clear hg_ hnew_
   (rw [← Nyz2.out] at ho42)
   have HOz0 := mk (Kd.R_lower (Kd.R_new' (Kd.R_newM (M := fun k_ => (P1_3_ k_ ∨ w.heap.size ≤ k_)) ho42 HK.out.1 (fun k_ h_ => .inr h_)) (Kd.R_lt HO1_3.out)) (below_size HB.out))
   replace HO1_3 := mk (Kd.R_elder' HO1_3.out (Kd.R_base ho42) hb)
   replace HI0 := mk (IsS90.below HI0.out hb)
   replace BKz0 := mk (blk_below BKz0.out hb)
   replace BKz1 := mk (blk_below BKz1.out hb)
   replace HK := mk (Kept.below (S := (fun k_ => (P1_3_ k_) ∨ k_ = g)) HK.out hb)
   replace HB := mk (below_step HB.out hb)
   clear hb ho42
   obtain ⟨Ao43, co43, eo43⟩ := Kd.R_slice HOz0.out
   (subst eo43)
   refine hK.out _ _ ⟨blk_cell BKz0.out 0, blk_cell BKz0.out 1, blk_cell BKz0.out 2, blk_cell BKz0.out 3⟩ (fun hHeld => ?_)
   clear hK K
   refine norm_ (a' := ?_) ?_ ?_
   rotate_left
   ·show Act.put _ (some 27) _ = _
    simp only [Act.put, List.setIfInBounds_toArray, List.set_cons_zero, List.set_cons_succ, i64_w, i32_w]
    rfl
   refine one_ (i := 4) (N := some 28) #[true, true, true, true, true, false, false] rfl rfl (by kernel_rfl) (by decide) (fun K hK => ?_)
   refine goes_ Try.func85 (by kernel_rfl) rfl #[.pointer (some ⟨g, 0, none⟩), .slice Ao43 yz1.length co43] (by rfl) rfl rfl (by (try simp only [List.map_toArray, List.map_cons, List.map_nil]); rfl) ?_
   with_reducible refine (spec_reader_one.calls k g s0_0 tz1 _ _ yz1 tz2 tz5 w0 _ ?side1 ?side2 ?side3 ?side4 ?side5 A33.out).mono ?_
   (case side1 => repeat (with_reducible exact HI0.out))
   (case side2 => repeat (with_reducible exact HB.out))
   (case side3 => repeat (exact (Kd.R_reads' HOz0.out).2.2))
   (case side4 => exact (Kd.R_reads' HOz0.out).2.1)
   (case side5 => exact far_slice (IsS90.own_ne HI0.out HOz0.out (by decide)))
   rintro e w44 ⟨rfl, hi, hb, hk⟩
   refine ⟨_, rfl, ?_⟩
   replace HO1_3 := mk (Kd.R_mono (Kd.R_keep (IsS90.apart (show IsS90 w0 _ g s0_0 tz1 from by exact HI0.out) HO1_3.out (by decide)) hk (fun _ h => h.2)) (fun _ h => h.1))
   replace BKz0 := mk (KeepBut.blk hk (g' := gbz1) (o := .cells #[.int .i64 a1_0, .int .i64 a1_1, .int .i64 a1_2, .slice Ao36 l1_3.length co36] 28 (0, 0)) BKz0.out NBz0.out (by simp))
   replace BKz1 := mk (KeepBut.blk hk (g' := gbz0) (o := .cells #[.int .i64 0, .int .i64 0, .int .i64 0, .slice none 0 0] 28 (0, 0)) BKz1.out NBz1.out (by simp))
   replace HOz0 := mk (Kd.R_mono (Kd.R_keep (IsS90.apart (show IsS90 w0 _ g s0_0 tz1 from by exact HI0.out) HOz0.out (by decide)) hk (fun _ h => h.2)) (fun _ h => h.1))
   replace HK := mk (Kept.of_keep (S := (fun k_ => (P1_3_ k_) ∨ k_ = g)) HK.out hk (.inl (.inr rfl)))
   replace HB := mk (hb)
   replace HI0 := mk (hi)
   (try clear hb)
   (try clear hk)
   (try clear hi)
   have p35 : 0 ≤ (0 : Int) := (by omega)
   have q35 : (0 : Int) < ((l1_3.length : Int) : Int) := of_decide_eq_true (by (with_reducible assumption))
   have qi35 : (0 < l1_3.length) = True := eq_true (by omega)
   obtain ⟨go35, co35, eo35, gb35, gl35, cl35, HG35⟩ := Kd.R_form HO1_3.out (by omega)
   (cases eo35)
   have GB35 := mk gb35
   clear gb35 gl35 HG35
   have HMgo35 := mk (show (P1_3_ go35 ∨ w.heap.size ≤ go35) from (HO1_3.out.1 _ rfl).1)
   obtain ⟨hx35_0, hf35_0⟩ := Kd.R_celln 0 HO1_3.out (0 : Int) p35 q35
   (try rw [show (0 : Int).toNat = 0 from rfl] at hx35_0)
   (try rw [show (0 : Int).toNat = 0 from rfl] at hf35_0)
   replace p35 := eq_true p35
   replace q35 := eq_true q35
   have HN0_go35 := mk (show g ≠ go35 from by have h_ := IsS90.own_ne HI0.out HO1_3.out (by decide); intro e_; exact h_ (by rw [e_]; rfl))
   have HP45 := Kd.R_putn HO1_3.out (0 : Int) tz2
   rw [← Nyz3.out] at HP45
   have HQ45 := mk HP45
   clear HP45
   refine hK.out _ _ ⟨blk_cell BKz0.out 0, blk_cell BKz0.out 1, blk_cell BKz0.out 2, blk_cell BKz0.out 3⟩ (fun hHeld => ?_)
   clear hK K
   refine norm_ (a' := ?_) ?_ ?_
   rotate_left
   ·show Act.put _ (some 28) _ = _
    simp only [Act.put, List.setIfInBounds_toArray, List.set_cons_zero, List.set_cons_succ, i64_w, i32_w]
    rfl
   refine pure_ (i := 5) (N := some 29) (v := ?_) (a' := ?_) #[true, true, true, true, true, true, false] rfl rfl (by kernel_rfl) (fun _ _ _ h => h) (Or.inl ⟨by rfl, ?_⟩) ?_ ?_
   rotate_left
   ·intro w'
    go_simp
    with_reducible rfl
   rotate_left
   ·simp only [Act.put, List.setIfInBounds_toArray, List.set_cons_zero, List.set_cons_succ, i64_w, i32_w]
    rfl
   refine last_ (i := 6) (N := none) #[true, true, true, true, true, true, true] rfl rfl (by kernel_rfl) (by decide) (fun K hK => ?_)
   refine skip_ (w1 := ?_) (by rfl) rfl ?_ ?_
   rotate_left
   ·go_simp
    rfl
   refine hK.out _ _ ?_
   clear hK K
   refine done_ (by kernel_rfl) ?_
   have n0_ : Aside0 (Kd.R (Kd.int .i64) 3 (w44.setCell ⟨go35, 0, none⟩ (.int .i64 tz2)) w0.heap.size (fun k_ => (P1_3_ k_ ∨ w.heap.size ≤ k_) ∧ some k_ ≠ (.slice Ao43 yz1.length co43 : Value).ownBlock) (.slice (some ⟨go35, 0, none⟩) l1_3.length co36) yz4) := HQ45
   have n1_ : Aside0 (Kd.R (Kd.int .i64) 3 (w44.setCell ⟨go35, 0, none⟩ (.int .i64 tz2)) w0.heap.size (fun k_ => (P1_3_ k_ ∨ w.heap.size ≤ k_) ∧ some k_ ≠ (.slice (some ⟨go35, 0, none⟩) l1_3.length co36 : Value).ownBlock) (.slice Ao43 yz1.length co43) yz1) := ⟨by exact Kd.R_mono (Kd.R_far (p := ⟨go35, 0, none⟩) (Kd.R_mono HOz0.out (fun k_ hk => (⟨hk, fun e_ => hk.2 (by rw [e_]; rfl)⟩ : _ ∧ k_ ≠ go35))) (fun _ hk => hk.2) (.int .i64 tz2)) (fun _ hk => ⟨hk.1.1.1, hk.1.2⟩)⟩
   have n2_ : Aside0 ((w44.setCell ⟨go35, 0, none⟩ (.int .i64 tz2)).heap[gbz1]? = some (.cells #[.int .i64 a1_0, .int .i64 a1_1, .int .i64 a1_2, .slice (some ⟨go35, 0, none⟩) l1_3.length co36] 28 (0, 0))) := ⟨by refine blk_far ?_ (by have h_ := Kd.R_ne HO1_3.out BKz0.out (by decide); intro e_; exact h_ (by rw [e_]; rfl)) _; exact BKz0.out⟩
   have n3_ : Aside0 ((w44.setCell ⟨go35, 0, none⟩ (.int .i64 tz2)).heap[gbz0]? = some (.cells #[.int .i64 0, .int .i64 0, .int .i64 0, .slice none 0 0] 28 (0, 0))) := ⟨by refine blk_far ?_ (by have h_ := Kd.R_ne HO1_3.out BKz1.out (by decide); intro e_; exact h_ (by rw [e_]; rfl)) _; exact BKz1.out⟩
   have n4_ : Aside0 (IsS90 w0 (w44.setCell ⟨go35, 0, none⟩ (.int .i64 tz2)) g s0_0 tz5) := ⟨by repeat (with_reducible first | exact HI0.out | refine IsS90.far ?_ HN0_go35.out _)⟩
   have n5_ : Aside0 (Kept w (w44.setCell ⟨go35, 0, none⟩ (.int .i64 tz2)) (fun k_ => (P1_3_ k_) ∨ k_ = g)) := ⟨by repeat ((with_reducible first | exact HK.out | refine Kept.setCell ?_ (Or.imp_left Or.inl HMgo35.out) _))⟩
   have n6_ : Aside0 (Below w0.heap.size w0 (w44.setCell ⟨go35, 0, none⟩ (.int .i64 tz2))) := ⟨by repeat (with_reducible first | exact HB.out | refine below_set ?_ GB35.out)⟩
   (try clear HO1_3)
   (try clear HOz0)
   (try clear BKz0)
   (try clear BKz1)
   (try clear HI0)
   (try clear HK)
   (try clear HB)
   generalize (w44.setCell ⟨go35, 0, none⟩ (.int .i64 tz2)) = w46 at n0_ n1_ n2_ n3_ n4_ n5_ n6_ ⊢
   revert n0_ n1_ n2_ n3_ n4_ n5_ n6_; intro HO1_3 HOz0 BKz0 BKz1 HI0 HK HB
   have hcz49_0 : w46.cell? ⟨gbz1, 0, none⟩ = some (.int .i64 a1_0) := (blk_cell BKz0.out 0).trans rfl
   have hcz49_1 : w46.cell? ⟨gbz1, 1, none⟩ = some (.int .i64 a1_1) := (blk_cell BKz0.out 1).trans rfl
   have hcz49_2 : w46.cell? ⟨gbz1, 2, none⟩ = some (.int .i64 a1_2) := (blk_cell BKz0.out 2).trans rfl
   have hcz49_3 : w46.cell? ⟨gbz1, 3, none⟩ = some (.slice (some ⟨go35, 0, none⟩) l1_3.length co36) := (blk_cell BKz0.out 3).trans rfl
   have hcz51_0 : w46.cell? ⟨gbz0, 0, none⟩ = some (.int .i64 0) := (blk_cell BKz1.out 0).trans rfl
   have hcz51_1 : w46.cell? ⟨gbz0, 1, none⟩ = some (.int .i64 0) := (blk_cell BKz1.out 1).trans rfl
   have hcz51_2 : w46.cell? ⟨gbz0, 2, none⟩ = some (.int .i64 0) := (blk_cell BKz1.out 2).trans rfl
   have hcz51_3 : w46.cell? ⟨gbz0, 3, none⟩ = some (.slice none 0 0) := (blk_cell BKz1.out 3).trans rfl
   have hfz51_0 := blk_frozen BKz1.out 0
   have hfz51_1 := blk_frozen BKz1.out 1
   have hfz51_2 := blk_frozen BKz1.out 2
   have hfz51_3 := blk_frozen BKz1.out 3
   try go_wp2
   refine bodyPost_ret (results_cell_row rfl _ _ gbz0 28 #[.int .i64 a1_0, .int .i64 a1_1, .int .i64 a1_2, .slice (some ⟨go35, 0, none⟩) l1_3.length co36] (0, 0) _ rfl (by refine blk_put (cs := #[.int .i64 a1_0, .int .i64 a1_1, .int .i64 a1_2, .slice none 0 0]) ?_ 3 _ rfl; refine blk_put (cs := #[.int .i64 a1_0, .int .i64 a1_1, .int .i64 0, .slice none 0 0]) ?_ 2 _ rfl; refine blk_put (cs := #[.int .i64 a1_0, .int .i64 0, .int .i64 0, .slice none 0 0]) ?_ 1 _ rfl; refine blk_put (cs := #[.int .i64 0, .int .i64 0, .int .i64 0, .slice none 0 0]) ?_ 0 _ rfl; exact BKz1.out) Try.underlying28 rfl (by kernel_rfl)) rfl ?_
   exact ⟨_, by rfl, Kd.Q_of_R (by exact Kd.R_mono (Kd.R_far (p := ⟨gbz0, 3, none⟩) (Kd.R_far (p := ⟨gbz0, 2, none⟩) (Kd.R_far (p := ⟨gbz0, 1, none⟩) (Kd.R_far (p := ⟨gbz0, 0, none⟩) (Kd.R_types HO1_3.out BKz1.out (by decide)) (fun _ hk => hk.2) (.int .i64 a1_0)) (fun _ hk => hk.2) (.int .i64 a1_1)) (fun _ hk => hk.2) (.int .i64 a1_2)) (fun _ hk => hk.2) (.slice (some ⟨go35, 0, none⟩) l1_3.length co36)) (fun _ hk => hk.1.1)), by repeat (with_reducible first | exact HI0.out | refine IsS90.far ?_ NBz3.out _), by repeat (with_reducible first | exact HB.out | refine below_set ?_ GEz0.out), by repeat ((with_reducible first | exact HK.out | refine Kept.setCell ?_ (.inr GWz0.out) _))⟩
  rw [if_neg c34] at H
  exact absurd H (by simp)
 rw [if_neg c32] at H
 have c32b0 : (tz0 == 2) = false := beq_eq_false_iff_ne.mpr c32
 have c32b1 : (tz0 != 2) = true := bne_iff_ne.mpr c32
 by_cases c52 : tz0 = 3
 ·rw [if_pos c52] at H
  have c52b0 : (tz0 == 3) = true := beq_iff_eq.mpr c52
  clear c52
  obtain ⟨yz3, hyz4⟩ : ∃ y_ : List Int, y_ = ([0, 5] : List Int) := ⟨_, rfl⟩
  replace H : ((spec_reader_one.f k s0_0 tz1 yz3).bind fun btz3 => (some (a1_0, a1_1, btz3.1, l1_3, btz3.2))) = some (r1, r2, r3, r4, r5) := by (rw [hyz4]; with_reducible exact H)
  have Nyz4 := mk hyz4
  clear hyz4
  replace H := Option.bind_eq_some_iff.mp H
  obtain ⟨⟨tz4, tz7⟩, A530, H⟩ := H
  replace H : (some (a1_0, a1_1, tz4, l1_3, tz7)) = some (r1, r2, r3, r4, r5) := H
  have A53 := mk A530
  clear A530
  simp only [Option.some.injEq, Prod.mk.injEq] at H
  obtain ⟨rfl, rfl, rfl, rfl, rfl⟩ := H
  obtain ⟨Ao54, co54, eo54⟩ := Kd.R_slice HO1_3.out
  subst eo54
  go_enter Try.func82, Try.ntmps82
  go_wp2_with (first | ((with_reducible refine gate_dst (N := 3) rfl ?_); refine box_event (by rfl) (N := 3) (by rfl) (cs := #[.int .i64 a1_0, .int .i64 a1_1, .int .i64 a1_2, .slice Ao54 l1_3.length co54]) (t := 28) (by go_simp; done) ?_; intro gbz1 hg w55 hbox hb; replace HO1_3 := mk (Kd.R_below HO1_3.out hb); have BKz0 := mk (hbox); have GWz1 := mk (by rw [hg]; exact HK.out.1 : w.heap.size ≤ gbz1); replace HK := mk (Kept.below (S := (fun k_ => (P1_3_ k_) ∨ k_ = g)) HK.out hb); have GEz1 := mk ((by rw [hg]; exact (below_size HB.out) : w0.heap.size ≤ gbz1)); replace HB := mk (below_step HB.out hb); have NBz4 := mk ((by rw [hg]; exact Nat.ne_of_lt (IsS90.lt (show IsS90 w0 _ g s0_0 s0_1 from by exact HI0.out)) : g ≠ gbz1)); have NBz0 := mk ((by rw [hg]; exact Nat.ne_of_gt (IsS90.lt (show IsS90 w0 _ g s0_0 s0_1 from by exact HI0.out)) : gbz1 ≠ g)); replace HI0 := mk (IsS90.below HI0.out hb); clear hb hbox hg) | ((with_reducible refine gate_dst (N := 4) rfl ?_); refine box_event (by rfl) (N := 4) (by rfl) (cs := #[.int .i64 0, .int .i64 0, .int .i64 0, .slice none 0 0]) (t := 28) (by go_simp; done) ?_; intro gbz0 hg w56 hbox hb; replace HO1_3 := mk (Kd.R_below HO1_3.out hb); have BKz1 := mk (hbox); have GWz0 := mk (by rw [hg]; exact HK.out.1 : w.heap.size ≤ gbz0); replace HK := mk (Kept.below (S := (fun k_ => (P1_3_ k_) ∨ k_ = g)) HK.out hb); have GEz0 := mk ((by rw [hg]; exact (below_size HB.out) : w0.heap.size ≤ gbz0)); replace HB := mk (below_step HB.out hb); have NBz2 := mk ((by rw [hg]; exact Nat.ne_of_gt (blk_lt BKz0.out) : gbz0 ≠ gbz1)); replace BKz0 := mk (blk_below BKz0.out hb); have NBz3 := mk ((by rw [hg]; exact Nat.ne_of_lt (IsS90.lt (show IsS90 w0 _ g s0_0 s0_1 from by exact HI0.out)) : g ≠ gbz0)); have NBz1 := mk ((by rw [hg]; exact Nat.ne_of_gt (IsS90.lt (show IsS90 w0 _ g s0_0 s0_1 from by exact HI0.out)) : gbz0 ≠ g)); replace HI0 := mk (IsS90.below HI0.out hb); clear hb hbox hg) | ((with_reducible refine gate_callee (f := 90) rfl ?_); refine goesL_ (some 6) rfl rfl Try.func90 (by kernel_rfl) rfl #[.pointer (some ⟨g, 0, none⟩), .int .i64 40] rfl (by (try simp only [List.map_toArray, List.map_cons, List.map_nil]); rfl) ?_; (with_reducible refine (spec_reader_pick.calls k g s0_0 s0_1 40 tz0 tz1 w0 _ ?side1 ?side2 A3.out).mono ?_); (case side1 => repeat (with_reducible exact HI0.out)); (case side2 => repeat (with_reducible exact HB.out)); rintro e w57 ⟨rfl, hi, hb, hk⟩; refine ⟨_, rfl, ?_⟩; replace HO1_3 := mk (Kd.R_mono (Kd.R_keep (IsS90.apart (show IsS90 w0 _ g s0_0 s0_1 from by exact HI0.out) HO1_3.out (by decide)) hk (fun _ h => h.2)) (fun _ h => h.1)); replace BKz0 := mk (KeepBut.blk hk (g' := gbz1) (o := .cells #[.int .i64 a1_0, .int .i64 a1_1, .int .i64 a1_2, .slice Ao54 l1_3.length co54] 28 (0, 0)) BKz0.out NBz0.out (by simp)); replace BKz1 := mk (KeepBut.blk hk (g' := gbz0) (o := .cells #[.int .i64 0, .int .i64 0, .int .i64 0, .slice none 0 0] 28 (0, 0)) BKz1.out NBz1.out (by simp)); replace HK := mk (Kept.of_keep (S := (fun k_ => (P1_3_ k_) ∨ k_ = g)) HK.out hk (.inl (.inr rfl))); replace HB := mk (hb); replace HI0 := mk (hi); (try clear hb); (try clear hk); (try clear hi)) | ((with_reducible refine gate_dst (N := 33) rfl ?_); refine Kd.R_lit (Kd.int .i64) _ 3 ?hg (N := 33) ?hd (xs := ([0, 5] : List Int)) (inner := [.int .i64 0, .int .i64 5]) (ok := fun _ => True) (okp := fun _ => True) ?hr ?hp (fun _ hk => hk) trivial (Below.refl _ _) (Nat.le_refl _) (by simp) ?_; (case hd => rfl); (case hg => rfl); (case hr => (go_simp; done)); (case hp => exact (Reps.one (show Kd.M (Kd.int .i64) _ _ _ 0 [.int .i64 0] from rfl) (Reps.one (show Kd.M (Kd.int .i64) _ _ _ 5 [.int .i64 5] from rfl) (Reps.none _ _)))); intro vz2 w58 ho59 hb hg_ hnew_; clear hg_ hnew_; (rw [← Nyz4.out] at ho59); have HOz2 := mk (Kd.R_lower (Kd.R_new' (Kd.R_newM (M := fun k_ => (P1_3_ k_ ∨ w.heap.size ≤ k_)) ho59 HK.out.1 (fun k_ h_ => .inr h_)) (Kd.R_lt HO1_3.out)) (below_size HB.out)); replace HO1_3 := mk (Kd.R_elder' HO1_3.out (Kd.R_base ho59) hb); replace HI0 := mk (IsS90.below HI0.out hb); replace BKz0 := mk (blk_below BKz0.out hb); replace BKz1 := mk (blk_below BKz1.out hb); replace HK := mk (Kept.below (S := (fun k_ => (P1_3_ k_) ∨ k_ = g)) HK.out hb); replace HB := mk (below_step HB.out hb); clear hb ho59; obtain ⟨Ao60, co60, eo60⟩ := Kd.R_slice HOz2.out; subst eo60) | ((with_reducible refine gate_callee (f := 85) rfl ?_); refine goesL_ (some 34) rfl rfl Try.func85 (by kernel_rfl) rfl #[.pointer (some ⟨g, 0, none⟩), .slice Ao60 yz3.length co60] rfl (by (try simp only [List.map_toArray, List.map_cons, List.map_nil]); rfl) ?_; (with_reducible refine (spec_reader_one.calls k g s0_0 tz1 _ _ yz3 tz4 tz7 w0 _ ?side1 ?side2 ?side3 ?side4 ?side5 A53.out).mono ?_); (case side1 => repeat (with_reducible exact HI0.out)); (case side2 => repeat (with_reducible exact HB.out)); (case side3 => repeat (exact (Kd.R_reads' HOz2.out).2.2)); (case side4 => exact (Kd.R_reads' HOz2.out).2.1); (case side5 => exact far_slice (IsS90.own_ne HI0.out HOz2.out (by decide))); rintro e w61 ⟨rfl, hi, hb, hk⟩; refine ⟨_, rfl, ?_⟩; have n0_ := mk (Kd.R_mono (Kd.R_keep (IsS90.apart (show IsS90 w0 _ g s0_0 tz1 from by exact HI0.out) HO1_3.out (by decide)) hk (fun _ h => h.2)) (fun _ h => h.1)); have n1_ := mk (KeepBut.blk hk (g' := gbz1) (o := .cells #[.int .i64 a1_0, .int .i64 a1_1, .int .i64 a1_2, .slice Ao54 l1_3.length co54] 28 (0, 0)) BKz0.out NBz0.out (by simp)); have n2_ := mk (KeepBut.blk hk (g' := gbz0) (o := .cells #[.int .i64 0, .int .i64 0, .int .i64 0, .slice none 0 0] 28 (0, 0)) BKz1.out NBz1.out (by simp)); have n4_ := mk (Kept.of_keep (S := (fun k_ => (P1_3_ k_) ∨ k_ = g)) HK.out hk (.inl (.inr rfl))); have n5_ := mk (hb); have n6_ := mk (hi); clear HO1_3; clear BKz0; clear BKz1; clear HOz2; clear HK; clear HB; clear HI0; have HO1_3 := n0_; have BKz0 := n1_; have BKz1 := n2_; have HK := n4_; have HB := n5_; have HI0 := n6_; (try clear hb); (try clear hk); (try clear hi); have hnc62 := NBz2.out; have hnb63 := NBz0.out; have hnc63 := NBz4.out; have hcz64_0 : w61.cell? ⟨gbz1, 0, none⟩ = some (.int .i64 a1_0) := (blk_cell BKz0.out 0).trans rfl; have hcz64_1 : w61.cell? ⟨gbz1, 1, none⟩ = some (.int .i64 a1_1) := (blk_cell BKz0.out 1).trans rfl; have hcz64_2 : w61.cell? ⟨gbz1, 2, none⟩ = some (.int .i64 a1_2) := (blk_cell BKz0.out 2).trans rfl; have hcz64_3 : w61.cell? ⟨gbz1, 3, none⟩ = some (.slice Ao54 l1_3.length co54) := (blk_cell BKz0.out 3).trans rfl; have hfz64_2 := blk_frozen BKz0.out 2; have hnb65 := NBz1.out; have hnc65 := NBz3.out; have hcz66_0 : w61.cell? ⟨gbz0, 0, none⟩ = some (.int .i64 0) := (blk_cell BKz1.out 0).trans rfl; have hcz66_1 : w61.cell? ⟨gbz0, 1, none⟩ = some (.int .i64 0) := (blk_cell BKz1.out 1).trans rfl; have hcz66_2 : w61.cell? ⟨gbz0, 2, none⟩ = some (.int .i64 0) := (blk_cell BKz1.out 2).trans rfl; have hcz66_3 : w61.cell? ⟨gbz0, 3, none⟩ = some (.slice none 0 0) := (blk_cell BKz1.out 3).trans rfl; have hfz66_0 := blk_frozen BKz1.out 0; have hfz66_1 := blk_frozen BKz1.out 1; have hfz66_2 := blk_frozen BKz1.out 2; have hfz66_3 := blk_frozen BKz1.out 3))
  refine bodyPost_ret (results_cell_row rfl _ _ gbz0 28 #[.int .i64 a1_0, .int .i64 a1_1, .int .i64 tz4, .slice Ao54 l1_3.length co54] (0, 0) _ rfl (by refine blk_put (cs := #[.int .i64 a1_0, .int .i64 a1_1, .int .i64 tz4, .slice none 0 0]) ?_ 3 _ rfl; refine blk_put (cs := #[.int .i64 a1_0, .int .i64 a1_1, .int .i64 0, .slice none 0 0]) ?_ 2 _ rfl; refine blk_put (cs := #[.int .i64 a1_0, .int .i64 0, .int .i64 0, .slice none 0 0]) ?_ 1 _ rfl; refine blk_put (cs := #[.int .i64 0, .int .i64 0, .int .i64 0, .slice none 0 0]) ?_ 0 _ rfl; refine blk_far ?_ NBz2.out _; exact BKz1.out) Try.underlying28 rfl (by kernel_rfl)) rfl ?_
  exact ⟨_, by rfl, Kd.Q_of_R (by exact Kd.R_mono (Kd.R_far (p := ⟨gbz0, 3, none⟩) (Kd.R_far (p := ⟨gbz0, 2, none⟩) (Kd.R_far (p := ⟨gbz0, 1, none⟩) (Kd.R_far (p := ⟨gbz0, 0, none⟩) (Kd.R_far (p := ⟨gbz1, 2, none⟩) (Kd.R_types (Kd.R_types HO1_3.out BKz0.out (by decide)) BKz1.out (by decide)) (fun _ hk => hk.1.2) (.int .i64 tz4)) (fun _ hk => hk.2) (.int .i64 a1_0)) (fun _ hk => hk.2) (.int .i64 a1_1)) (fun _ hk => hk.2) (.int .i64 tz4)) (fun _ hk => hk.2) (.slice Ao54 l1_3.length co54)) (fun _ hk => hk.1.1.1)), by repeat (with_reducible first | exact HI0.out | refine IsS90.far ?_ NBz4.out _ | refine IsS90.far ?_ NBz3.out _), by repeat (with_reducible first | exact HB.out | refine below_set ?_ GEz1.out | refine below_set ?_ GEz0.out), by repeat ((with_reducible first | exact HK.out | refine Kept.setCell ?_ (.inr GWz1.out) _ | refine Kept.setCell ?_ (.inr GWz0.out) _))⟩
 rw [if_neg c52] at H
 have c52b0 : (tz0 == 3) = false := beq_eq_false_iff_ne.mpr c52
 simp only [Option.some.injEq, Prod.mk.injEq] at H
 obtain ⟨rfl, rfl, rfl, rfl, rfl⟩ := H
 obtain ⟨Ao67, co67, eo67⟩ := Kd.R_slice HO1_3.out
 subst eo67
 go_enter Try.func82, Try.ntmps82
 go_wp2_with (first | ((with_reducible refine gate_dst (N := 3) rfl ?_); refine box_event (by rfl) (N := 3) (by rfl) (cs := #[.int .i64 a1_0, .int .i64 a1_1, .int .i64 a1_2, .slice Ao67 l1_3.length co67]) (t := 28) (by go_simp; done) ?_; intro gbz1 hg w68 hbox hb; replace HO1_3 := mk (Kd.R_below HO1_3.out hb); replace HK := mk (Kept.below (S := (fun k_ => (P1_3_ k_) ∨ k_ = g)) HK.out hb); replace HB := mk (below_step HB.out hb); have BKz0 := mk (hbox); have NBz0 := mk ((by rw [hg]; exact Nat.ne_of_gt (IsS90.lt (show IsS90 w0 _ g s0_0 s0_1 from by exact HI0.out)) : gbz1 ≠ g)); replace HI0 := mk (IsS90.below HI0.out hb); clear hb hbox hg) | ((with_reducible refine gate_dst (N := 4) rfl ?_); refine box_event (by rfl) (N := 4) (by rfl) (cs := #[.int .i64 0, .int .i64 0, .int .i64 0, .slice none 0 0]) (t := 28) (by go_simp; done) ?_; intro gbz0 hg w69 hbox hb; replace HO1_3 := mk (Kd.R_below HO1_3.out hb); replace BKz0 := mk (blk_below BKz0.out hb); have BKz1 := mk (hbox); have GWz0 := mk (by rw [hg]; exact HK.out.1 : w.heap.size ≤ gbz0); replace HK := mk (Kept.below (S := (fun k_ => (P1_3_ k_) ∨ k_ = g)) HK.out hb); have GEz0 := mk ((by rw [hg]; exact (below_size HB.out) : w0.heap.size ≤ gbz0)); replace HB := mk (below_step HB.out hb); have NBz3 := mk ((by rw [hg]; exact Nat.ne_of_lt (IsS90.lt (show IsS90 w0 _ g s0_0 s0_1 from by exact HI0.out)) : g ≠ gbz0)); have NBz1 := mk ((by rw [hg]; exact Nat.ne_of_gt (IsS90.lt (show IsS90 w0 _ g s0_0 s0_1 from by exact HI0.out)) : gbz0 ≠ g)); replace HI0 := mk (IsS90.below HI0.out hb); clear hb hbox hg) | ((with_reducible refine gate_callee (f := 90) rfl ?_); refine goesL_ (some 6) rfl rfl Try.func90 (by kernel_rfl) rfl #[.pointer (some ⟨g, 0, none⟩), .int .i64 40] rfl (by (try simp only [List.map_toArray, List.map_cons, List.map_nil]); rfl) ?_; (with_reducible refine (spec_reader_pick.calls k g s0_0 s0_1 40 tz0 tz1 w0 _ ?side1 ?side2 A3.out).mono ?_); (case side1 => repeat (with_reducible exact HI0.out)); (case side2 => repeat (with_reducible exact HB.out)); rintro e w70 ⟨rfl, hi, hb, hk⟩; refine ⟨_, rfl, ?_⟩; replace HO1_3 := mk (Kd.R_mono (Kd.R_keep (IsS90.apart (show IsS90 w0 _ g s0_0 s0_1 from by exact HI0.out) HO1_3.out (by decide)) hk (fun _ h => h.2)) (fun _ h => h.1)); replace BKz0 := mk (KeepBut.blk hk (g' := gbz1) (o := .cells #[.int .i64 a1_0, .int .i64 a1_1, .int .i64 a1_2, .slice Ao67 l1_3.length co67] 28 (0, 0)) BKz0.out NBz0.out (by simp)); replace BKz1 := mk (KeepBut.blk hk (g' := gbz0) (o := .cells #[.int .i64 0, .int .i64 0, .int .i64 0, .slice none 0 0] 28 (0, 0)) BKz1.out NBz1.out (by simp)); replace HK := mk (Kept.of_keep (S := (fun k_ => (P1_3_ k_) ∨ k_ = g)) HK.out hk (.inl (.inr rfl))); replace HB := mk (hb); replace HI0 := mk (hi); (try clear hb); (try clear hk); (try clear hi); have hcz73_0 : w70.cell? ⟨gbz1, 0, none⟩ = some (.int .i64 a1_0) := (blk_cell BKz0.out 0).trans rfl; have hcz73_1 : w70.cell? ⟨gbz1, 1, none⟩ = some (.int .i64 a1_1) := (blk_cell BKz0.out 1).trans rfl; have hcz73_2 : w70.cell? ⟨gbz1, 2, none⟩ = some (.int .i64 a1_2) := (blk_cell BKz0.out 2).trans rfl; have hcz73_3 : w70.cell? ⟨gbz1, 3, none⟩ = some (.slice Ao67 l1_3.length co67) := (blk_cell BKz0.out 3).trans rfl; have hcz75_0 : w70.cell? ⟨gbz0, 0, none⟩ = some (.int .i64 0) := (blk_cell BKz1.out 0).trans rfl; have hcz75_1 : w70.cell? ⟨gbz0, 1, none⟩ = some (.int .i64 0) := (blk_cell BKz1.out 1).trans rfl; have hcz75_2 : w70.cell? ⟨gbz0, 2, none⟩ = some (.int .i64 0) := (blk_cell BKz1.out 2).trans rfl; have hcz75_3 : w70.cell? ⟨gbz0, 3, none⟩ = some (.slice none 0 0) := (blk_cell BKz1.out 3).trans rfl; have hfz75_0 := blk_frozen BKz1.out 0; have hfz75_1 := blk_frozen BKz1.out 1; have hfz75_2 := blk_frozen BKz1.out 2; have hfz75_3 := blk_frozen BKz1.out 3))
 refine bodyPost_ret (results_cell_row rfl _ _ gbz0 28 #[.int .i64 a1_0, .int .i64 a1_1, .int .i64 a1_2, .slice Ao67 l1_3.length co67] (0, 0) _ rfl (by refine blk_put (cs := #[.int .i64 a1_0, .int .i64 a1_1, .int .i64 a1_2, .slice none 0 0]) ?_ 3 _ rfl; refine blk_put (cs := #[.int .i64 a1_0, .int .i64 a1_1, .int .i64 0, .slice none 0 0]) ?_ 2 _ rfl; refine blk_put (cs := #[.int .i64 a1_0, .int .i64 0, .int .i64 0, .slice none 0 0]) ?_ 1 _ rfl; refine blk_put (cs := #[.int .i64 0, .int .i64 0, .int .i64 0, .slice none 0 0]) ?_ 0 _ rfl; exact BKz1.out) Try.underlying28 rfl (by kernel_rfl)) rfl ?_
 exact ⟨_, by rfl, Kd.Q_of_R (by exact Kd.R_mono (Kd.R_far (p := ⟨gbz0, 3, none⟩) (Kd.R_far (p := ⟨gbz0, 2, none⟩) (Kd.R_far (p := ⟨gbz0, 1, none⟩) (Kd.R_far (p := ⟨gbz0, 0, none⟩) (Kd.R_types HO1_3.out BKz1.out (by decide)) (fun _ hk => hk.2) (.int .i64 a1_0)) (fun _ hk => hk.2) (.int .i64 a1_1)) (fun _ hk => hk.2) (.int .i64 a1_2)) (fun _ hk => hk.2) (.slice Ao67 l1_3.length co67)) (fun _ hk => hk.1)), by repeat (with_reducible first | exact HI0.out | refine IsS90.far ?_ NBz3.out _), by repeat (with_reducible first | exact HB.out | refine below_set ?_ GEz0.out), by repeat ((with_reducible first | exact HK.out | refine Kept.setCell ?_ (.inr GWz0.out) _))⟩


def spec_randomImage.l0 : Nat → Int → Int → Int → List Int → Int → Int → Int → Int → List Int → Option (Int × Int × Int × List Int × Int)
 | 0, _, _, _, _, _, _, _, _, _ => none
 | k + 1, x6, x7, x8, x1000, x1001, xz2, xz3, xz4, xz1 => if x8 < (xz1.length : Int) then (if x6 = 0 then ((spec_reader_pick.f k x1000 x1001 256).bind fun btz5 => (if 0 ≤ x8 then (spec_randomImage.l0 k x6 btz5.1 (wrap64 (x8 + 1)) x1000 btz5.2 xz2 xz3 xz4 (xz1.set (x8 : Int).toNat btz5.1)) else none)) else (if x6 = 1 then ((spec_reader_pick.f k x1000 x1001 5).bind fun btz6 => (if 0 ≤ x8 then (spec_randomImage.l0 k x6 (Int.tmod (wrap64 ((wrap64 (x7 + btz6.1)) + 254)) 256) (wrap64 (x8 + 1)) x1000 btz6.2 xz2 xz3 xz4 (xz1.set (x8 : Int).toNat (Int.tmod (wrap64 ((wrap64 (x7 + btz6.1)) + 254)) 256))) else none)) else (if x6 = 2 then ((spec_reader_pick.f k x1000 x1001 4).bind fun btz7 => (if 0 ≤ x8 then (spec_randomImage.l0 k x6 (wrap64 (60 * btz7.1)) (wrap64 (x8 + 1)) x1000 btz7.2 xz2 xz3 xz4 (xz1.set (x8 : Int).toNat (wrap64 (60 * btz7.1)))) else none)) else (if 0 ≤ x8 then (spec_randomImage.l0 k x6 x7 (wrap64 (x8 + 1)) x1000 x1001 xz2 xz3 xz4 (xz1.set (x8 : Int).toNat x7)) else none)))) else (some (xz2, xz3, xz4, xz1, x1001))
def spec_randomImage.f (k : Nat) (s0_0 : List Int) (s0_1 : Int) (a1 : Int) : Option (Int × Int × Int × List Int × Int) := (spec_reader_one.f k s0_0 s0_1 ([3, 4, 2, 5, 1, 8, 6] : List Int)).bind fun btz4 => ((spec_reader_one.f k s0_0 btz4.2 ([3, 2, 4, 1, 5, 8] : List Int)).bind fun btz3 => ((spec_newImage.f btz4.1 btz3.1 a1).bind fun btz0 => ((spec_reader_pick.f k s0_0 btz3.2 4).bind fun btz2 => ((spec_reader_pick.f k s0_0 btz2.2 256).bind fun btz1 => (spec_randomImage.l0 k btz2.1 btz1.1 0 s0_0 btz1.2 btz0.1 btz0.2.1 btz0.2.2.1 btz0.2.2.2)))))
theorem spec_randomImage.calls (k : Nat) (g : Nat) (s0_0 : List Int) (s0_1 : Int) (a1 : Int) (r1 : Int) (r2 : Int) (r3 : Int) (r4 : List Int) (r5 : Int) (w0 w : World) (hI : IsS90 w0 w g s0_0 s0_1) (hB : Below w0.heap.size w0 w) (h : spec_randomImage.f k s0_0 s0_1 a1 = some (r1, r2, r3, r4, r5)) :
  Calls Try.prog 83 #[.pointer (some ⟨g, 0, none⟩), .int .i64 a1] w fun e w' => ∃ v3_ : Value, e = .returned (.agg #[.int .i64 r1, .int .i64 r2, .int .i64 r3, v3_]) ∧ Kd.R (Kd.int .i64) 3 w' w.heap.size (fun _ => True) v3_ r4 ∧ IsS90 w0 w' g s0_0 r5 ∧ Below w0.heap.size w0 w' ∧ KeepBut w w' g none := by
 have HI0 := mk hI
 have HK := mk (KeepBut.refl w g none)
 have HL := mk hB.size
 clear hI
 have HW0 := mk hB.size
 have HB := mk hB
 clear hB
 have H : ((spec_reader_one.f k s0_0 s0_1 ([3, 4, 2, 5, 1, 8, 6] : List Int)).bind fun btz4 => ((spec_reader_one.f k s0_0 btz4.2 ([3, 2, 4, 1, 5, 8] : List Int)).bind fun btz3 => ((spec_newImage.f btz4.1 btz3.1 a1).bind fun btz0 => ((spec_reader_pick.f k s0_0 btz3.2 4).bind fun btz2 => ((spec_reader_pick.f k s0_0 btz2.2 256).bind fun btz1 => (spec_randomImage.l0 k btz2.1 btz1.1 0 s0_0 btz1.2 btz0.1 btz0.2.1 btz0.2.2.1 btz0.2.2.2)))))) = some (r1, r2, r3, r4, r5) := h
 clear h
 obtain ⟨yz0, hyz0⟩ : ∃ y_ : List Int, y_ = ([3, 4, 2, 5, 1, 8, 6] : List Int) := ⟨_, rfl⟩
 replace H : ((spec_reader_one.f k s0_0 s0_1 yz0).bind fun btz4 => ((spec_reader_one.f k s0_0 btz4.2 ([3, 2, 4, 1, 5, 8] : List Int)).bind fun btz3 => ((spec_newImage.f btz4.1 btz3.1 a1).bind fun btz0 => ((spec_reader_pick.f k s0_0 btz3.2 4).bind fun btz2 => ((spec_reader_pick.f k s0_0 btz2.2 256).bind fun btz1 => (spec_randomImage.l0 k btz2.1 btz1.1 0 s0_0 btz1.2 btz0.1 btz0.2.1 btz0.2.2.1 btz0.2.2.2)))))) = some (r1, r2, r3, r4, r5) := by (rw [hyz0]; with_reducible exact H)
 have Nyz0 := mk hyz0
 clear hyz0
 replace H := Option.bind_eq_some_iff.mp H
 obtain ⟨⟨tz9, tz10⟩, A30, H⟩ := H
 replace H : ((spec_reader_one.f k s0_0 tz10 ([3, 2, 4, 1, 5, 8] : List Int)).bind fun btz3 => ((spec_newImage.f tz9 btz3.1 a1).bind fun btz0 => ((spec_reader_pick.f k s0_0 btz3.2 4).bind fun btz2 => ((spec_reader_pick.f k s0_0 btz2.2 256).bind fun btz1 => (spec_randomImage.l0 k btz2.1 btz1.1 0 s0_0 btz1.2 btz0.1 btz0.2.1 btz0.2.2.1 btz0.2.2.2))))) = some (r1, r2, r3, r4, r5) := H
 have A3 := mk A30
 clear A30
 obtain ⟨yz1, hyz1⟩ : ∃ y_ : List Int, y_ = ([3, 2, 4, 1, 5, 8] : List Int) := ⟨_, rfl⟩
 replace H : ((spec_reader_one.f k s0_0 tz10 yz1).bind fun btz3 => ((spec_newImage.f tz9 btz3.1 a1).bind fun btz0 => ((spec_reader_pick.f k s0_0 btz3.2 4).bind fun btz2 => ((spec_reader_pick.f k s0_0 btz2.2 256).bind fun btz1 => (spec_randomImage.l0 k btz2.1 btz1.1 0 s0_0 btz1.2 btz0.1 btz0.2.1 btz0.2.2.1 btz0.2.2.2))))) = some (r1, r2, r3, r4, r5) := by (rw [hyz1]; with_reducible exact H)
 have Nyz1 := mk hyz1
 clear hyz1
 replace H := Option.bind_eq_some_iff.mp H
 obtain ⟨⟨tz11, tz5⟩, A40, H⟩ := H
 replace H : ((spec_newImage.f tz9 tz11 a1).bind fun btz0 => ((spec_reader_pick.f k s0_0 tz5 4).bind fun btz2 => ((spec_reader_pick.f k s0_0 btz2.2 256).bind fun btz1 => (spec_randomImage.l0 k btz2.1 btz1.1 0 s0_0 btz1.2 btz0.1 btz0.2.1 btz0.2.2.1 btz0.2.2.2)))) = some (r1, r2, r3, r4, r5) := H
 have A4 := mk A40
 clear A40
 replace H := Option.bind_eq_some_iff.mp H
 obtain ⟨⟨tz0, tz1, tz2, tz4⟩, A50, H⟩ := H
 replace H : ((spec_reader_pick.f k s0_0 tz5 4).bind fun btz2 => ((spec_reader_pick.f k s0_0 btz2.2 256).bind fun btz1 => (spec_randomImage.l0 k btz2.1 btz1.1 0 s0_0 btz1.2 tz0 tz1 tz2 tz4))) = some (r1, r2, r3, r4, r5) := H
 have A5 := mk A50
 clear A50
 replace H := Option.bind_eq_some_iff.mp H
 obtain ⟨⟨tz3, tz12⟩, A60, H⟩ := H
 replace H : ((spec_reader_pick.f k s0_0 tz12 256).bind fun btz1 => (spec_randomImage.l0 k tz3 btz1.1 0 s0_0 btz1.2 tz0 tz1 tz2 tz4)) = some (r1, r2, r3, r4, r5) := H
 have A6 := mk A60
 clear A60
 replace H := Option.bind_eq_some_iff.mp H
 obtain ⟨⟨tz16, tz17⟩, A70, H⟩ := H
 replace H : (spec_randomImage.l0 k tz3 tz16 0 s0_0 tz17 tz0 tz1 tz2 tz4) = some (r1, r2, r3, r4, r5) := H
 have A7 := mk A70
 clear A70
 have H' := mk H
 clear H
 go_enter Try.func83, Try.ntmps83
 go_wp2_with (first | ((with_reducible refine gate_dst (N := 4) rfl ?_); refine box_event (by rfl) (N := 4) (by rfl) (cs := #[.int .i64 0, .int .i64 0, .int .i64 0, .slice none 0 0]) (t := 28) (by go_simp; done) ?_; intro gbz1 hg w8 hbox hb; replace HB := mk (below_step HB.out hb); have BKz0 := mk (hbox); have GWz0 := mk ((by rw [hg]; exact (keep_size (w := w) (g := g) (row := none) HK.out) : w.heap.size ≤ gbz1)); have GEz0 := mk ((Nat.le_trans HW0.out (by rw [hg]; exact (keep_size (w := w) (g := g) (row := none) HK.out) : w.heap.size ≤ gbz1) : w0.heap.size ≤ gbz1)); replace HK := mk (KeepBut.trans HK.out (KeepBut.of_below hb g none) (.inl rfl)); have NBz4 := mk ((by rw [hg]; exact Nat.ne_of_lt (IsS90.lt (show IsS90 w0 _ g s0_0 s0_1 from by exact HI0.out)) : g ≠ gbz1)); have NBz0 := mk ((by rw [hg]; exact Nat.ne_of_gt (IsS90.lt (show IsS90 w0 _ g s0_0 s0_1 from by exact HI0.out)) : gbz1 ≠ g)); replace HI0 := mk (IsS90.below HI0.out hb); clear hb hbox hg) | ((with_reducible refine gate_dst (N := 10) rfl ?_); refine Kd.R_lit (Kd.int .i64) _ 3 ?hg (N := 10) ?hd (xs := ([3, 4, 2, 5, 1, 8, 6] : List Int)) (inner := [.int .i64 3, .int .i64 4, .int .i64 2, .int .i64 5, .int .i64 1, .int .i64 8, .int .i64 6]) (ok := fun _ => True) (okp := fun _ => True) ?hr ?hp (fun _ hk => hk) trivial (Below.refl _ _) (Nat.le_refl _) (by simp) ?_; (case hd => rfl); (case hg => rfl); (case hr => (go_simp; done)); (case hp => exact (Reps.one (show Kd.M (Kd.int .i64) _ _ _ 3 [.int .i64 3] from rfl) (Reps.one (show Kd.M (Kd.int .i64) _ _ _ 4 [.int .i64 4] from rfl) (Reps.one (show Kd.M (Kd.int .i64) _ _ _ 2 [.int .i64 2] from rfl) (Reps.one (show Kd.M (Kd.int .i64) _ _ _ 5 [.int .i64 5] from rfl) (Reps.one (show Kd.M (Kd.int .i64) _ _ _ 1 [.int .i64 1] from rfl) (Reps.one (show Kd.M (Kd.int .i64) _ _ _ 8 [.int .i64 8] from rfl) (Reps.one (show Kd.M (Kd.int .i64) _ _ _ 6 [.int .i64 6] from rfl) (Reps.none _ _))))))))); intro vz0 w9 ho10 hb hg_ hnew_; clear hg_ hnew_; (rw [← Nyz0.out] at ho10); have HOz1 := mk (Kd.R_lower ho10 (keep_size (w := w) (g := g) (row := none) HK.out)); replace HI0 := mk (IsS90.below HI0.out hb); replace BKz0 := mk (blk_below BKz0.out hb); replace HK := mk (KeepBut.trans HK.out (KeepBut.of_below hb g none) (.inl rfl)); replace HB := mk (below_step HB.out hb); clear hb ho10; obtain ⟨Ao11, co11, eo11⟩ := Kd.R_slice HOz1.out; subst eo11) | ((with_reducible refine gate_callee (f := 85) rfl ?_); refine goesL_ (some 11) rfl rfl Try.func85 (by kernel_rfl) rfl #[.pointer (some ⟨g, 0, none⟩), .slice Ao11 yz0.length co11] rfl (by (try simp only [List.map_toArray, List.map_cons, List.map_nil]); rfl) ?_; (with_reducible refine (spec_reader_one.calls k g s0_0 s0_1 _ _ yz0 tz9 tz10 w0 _ ?side1 ?side2 ?side3 ?side4 ?side5 A3.out).mono ?_); (case side1 => repeat (with_reducible exact HI0.out)); (case side2 => repeat (with_reducible exact HB.out)); (case side3 => repeat (exact (Kd.R_reads' HOz1.out).2.2)); (case side4 => exact (Kd.R_reads' HOz1.out).2.1); (case side5 => exact far_slice (IsS90.own_ne HI0.out HOz1.out (by decide))); rintro e w12 ⟨rfl, hi, hb, hk⟩; refine ⟨_, rfl, ?_⟩; replace BKz0 := mk (KeepBut.blk hk (g' := gbz1) (o := .cells #[.int .i64 0, .int .i64 0, .int .i64 0, .slice none 0 0] 28 (0, 0)) BKz0.out NBz0.out (by simp)); replace HOz1 := mk (Kd.R_mono (Kd.R_keep (IsS90.apart (show IsS90 w0 _ g s0_0 s0_1 from by exact HI0.out) HOz1.out (by decide)) hk (fun _ h => h.2)) (fun _ h => h.1)); replace HK := mk (KeepBut.trans HK.out hk (.inl rfl)); replace HB := mk (hb); replace HI0 := mk (hi); (try clear hb); (try clear hk); (try clear hi)) | ((with_reducible refine gate_dst (N := 13) rfl ?_); refine Kd.R_lit (Kd.int .i64) _ 3 ?hg (N := 13) ?hd (xs := ([3, 2, 4, 1, 5, 8] : List Int)) (inner := [.int .i64 3, .int .i64 2, .int .i64 4, .int .i64 1, .int .i64 5, .int .i64 8]) (ok := fun _ => True) (okp := fun _ => True) ?hr ?hp (fun _ hk => hk) trivial (Below.refl _ _) (Nat.le_refl _) (by simp) ?_; (case hd => rfl); (case hg => rfl); (case hr => (go_simp; done)); (case hp => exact (Reps.one (show Kd.M (Kd.int .i64) _ _ _ 3 [.int .i64 3] from rfl) (Reps.one (show Kd.M (Kd.int .i64) _ _ _ 2 [.int .i64 2] from rfl) (Reps.one (show Kd.M (Kd.int .i64) _ _ _ 4 [.int .i64 4] from rfl) (Reps.one (show Kd.M (Kd.int .i64) _ _ _ 1 [.int .i64 1] from rfl) (Reps.one (show Kd.M (Kd.int .i64) _ _ _ 5 [.int .i64 5] from rfl) (Reps.one (show Kd.M (Kd.int .i64) _ _ _ 8 [.int .i64 8] from rfl) (Reps.none _ _)))))))); intro vz1 w13 ho14 hb hg_ hnew_; clear hg_ hnew_; (rw [← Nyz1.out] at ho14); have HOz2 := mk (Kd.R_lower (Kd.R_new' ho14 (Kd.R_lt HOz1.out)) (keep_size (w := w) (g := g) (row := none) HK.out)); replace HOz1 := mk (Kd.R_elder' HOz1.out (Kd.R_base ho14) hb); replace HI0 := mk (IsS90.below HI0.out hb); replace BKz0 := mk (blk_below BKz0.out hb); replace HK := mk (KeepBut.trans HK.out (KeepBut.of_below hb g none) (.inl rfl)); replace HB := mk (below_step HB.out hb); clear hb ho14; obtain ⟨Ao15, co15, eo15⟩ := Kd.R_slice HOz2.out; subst eo15) | ((with_reducible refine gate_callee (f := 85) rfl ?_); refine goesL_ (some 14) rfl rfl Try.func85 (by kernel_rfl) rfl #[.pointer (some ⟨g, 0, none⟩), .slice Ao15 yz1.length co15] rfl (by (try simp only [List.map_toArray, List.map_cons, List.map_nil]); rfl) ?_; (with_reducible refine (spec_reader_one.calls k g s0_0 tz10 _ _ yz1 tz11 tz5 w0 _ ?side1 ?side2 ?side3 ?side4 ?side5 A4.out).mono ?_); (case side1 => repeat (with_reducible exact HI0.out)); (case side2 => repeat (with_reducible exact HB.out)); (case side3 => repeat (exact (Kd.R_reads' HOz2.out).2.2)); (case side4 => exact (Kd.R_reads' HOz2.out).2.1); (case side5 => exact far_slice (IsS90.own_ne HI0.out HOz2.out (by decide))); rintro e w16 ⟨rfl, hi, hb, hk⟩; refine ⟨_, rfl, ?_⟩; replace BKz0 := mk (KeepBut.blk hk (g' := gbz1) (o := .cells #[.int .i64 0, .int .i64 0, .int .i64 0, .slice none 0 0] 28 (0, 0)) BKz0.out NBz0.out (by simp)); replace HOz1 := mk (Kd.R_mono (Kd.R_keep (IsS90.apart (show IsS90 w0 _ g s0_0 tz10 from by exact HI0.out) HOz1.out (by decide)) hk (fun _ h => h.2)) (fun _ h => h.1)); replace HOz2 := mk (Kd.R_mono (Kd.R_keep (IsS90.apart (show IsS90 w0 _ g s0_0 tz10 from by exact HI0.out) HOz2.out (by decide)) hk (fun _ h => h.2)) (fun _ h => h.1)); replace HK := mk (KeepBut.trans HK.out hk (.inl rfl)); replace HB := mk (hb); replace HI0 := mk (hi); (try clear hb); (try clear hk); (try clear hi)) | ((with_reducible refine gate_callee (f := 96) rfl ?_); refine goesL_ (some 16) rfl rfl Try.func96 (by kernel_rfl) rfl #[.int .i64 tz9, .int .i64 tz11, .int .i64 a1] rfl (by (try simp only [List.map_toArray, List.map_cons, List.map_nil]); rfl) ?_; (with_reducible refine (spec_newImage.calls tz9 tz11 a1 tz0 tz1 tz2 tz4 _ A5.out).mono ?_); rintro e w17 ⟨vz2, rfl, ho0, hb⟩; refine ⟨_, rfl, ?_⟩; have HOz3 := mk (Kd.R_lower (Kd.R_new' (Kd.R_new' ho0 (Kd.R_lt HOz1.out)) (Kd.R_lt HOz2.out)) (keep_size (w := w) (g := g) (row := none) HK.out)); replace HOz1 := mk (Kd.R_elder' HOz1.out (Kd.R_base ho0) hb); replace HOz2 := mk (Kd.R_elder' HOz2.out (Kd.R_base ho0) hb); replace HI0 := mk (IsS90.below HI0.out hb); replace BKz0 := mk (blk_below BKz0.out hb); replace HK := mk (KeepBut.trans HK.out (KeepBut.of_below hb g none) (.inl rfl)); replace HB := mk (below_step HB.out hb); (try clear hb); (try clear ho0)) | ((with_reducible refine gate_dst (N := 5) rfl ?_); refine box_event (by rfl) (N := 5) (by rfl) (cs := #[.int .i64 0, .int .i64 0, .int .i64 0, .slice none 0 0]) (t := 28) (by go_simp; done) ?_; intro gbz0 hg w18 hbox hb; replace HOz1 := mk (Kd.R_below HOz1.out hb); replace HOz2 := mk (Kd.R_below HOz2.out hb); replace HOz3 := mk (Kd.R_below HOz3.out hb); replace HB := mk (below_step HB.out hb); have BKz1 := mk (hbox); have GWz1 := mk ((by rw [hg]; exact (keep_size (w := w) (g := g) (row := none) HK.out) : w.heap.size ≤ gbz0)); have GEz1 := mk ((Nat.le_trans HW0.out (by rw [hg]; exact (keep_size (w := w) (g := g) (row := none) HK.out) : w.heap.size ≤ gbz0) : w0.heap.size ≤ gbz0)); replace HK := mk (KeepBut.trans HK.out (KeepBut.of_below hb g none) (.inl rfl)); have NBz1 := mk ((by rw [hg]; exact Nat.ne_of_lt (blk_lt BKz0.out) : gbz1 ≠ gbz0)); replace BKz0 := mk (blk_below BKz0.out hb); have NBz3 := mk ((by rw [hg]; exact Nat.ne_of_lt (IsS90.lt (show IsS90 w0 _ g s0_0 tz5 from by exact HI0.out)) : g ≠ gbz0)); have NBz2 := mk ((by rw [hg]; exact Nat.ne_of_gt (IsS90.lt (show IsS90 w0 _ g s0_0 tz5 from by exact HI0.out)) : gbz0 ≠ g)); replace HI0 := mk (IsS90.below HI0.out hb); clear hb hbox hg; obtain ⟨hcz21_0, hcz21_1, hcz21_2, hcz21_3, hfz21_0, hfz21_1, hfz21_2, hfz21_3⟩ := c4 BKz1.out; obtain ⟨Ao22, co22, eo22⟩ := Kd.R_slice HOz3.out; subst eo22) | ((with_reducible refine gate_callee (f := 90) rfl ?_); refine goesL_ (some 18) rfl rfl Try.func90 (by kernel_rfl) rfl #[.pointer (some ⟨g, 0, none⟩), .int .i64 4] rfl (by (try simp only [List.map_toArray, List.map_cons, List.map_nil]); rfl) ?_; (with_reducible refine (spec_reader_pick.calls k g s0_0 tz5 4 tz3 tz12 w0 _ ?side1 ?side2 A6.out).mono ?_); (case side1 => repeat (with_reducible first | exact HI0.out | refine IsS90.far ?_ NBz3.out _)); (case side2 => repeat (with_reducible first | exact HB.out | refine below_set ?_ GEz1.out)); rintro e w23 ⟨rfl, hi, hb, hk⟩; refine ⟨_, rfl, ?_⟩; replace BKz0 := mk (KeepBut.blk hk (g' := gbz1) (o := .cells #[.int .i64 0, .int .i64 0, .int .i64 0, .slice none 0 0] 28 (0, 0)) (by refine blk_far ?_ NBz1.out _; refine blk_far ?_ NBz1.out _; refine blk_far ?_ NBz1.out _; refine blk_far ?_ NBz1.out _; exact BKz0.out) NBz0.out (by simp)); replace HOz1 := mk (Kd.R_mono (Kd.R_keep (IsS90.apart (show IsS90 w0 _ g s0_0 tz5 from by repeat (with_reducible first | exact HI0.out | refine IsS90.far ?_ NBz3.out _)) (by exact (Kd.R_mono (Kd.R_far (p := ⟨gbz0, 3, none⟩) (Kd.R_far (p := ⟨gbz0, 2, none⟩) (Kd.R_far (p := ⟨gbz0, 1, none⟩) (Kd.R_far (p := ⟨gbz0, 0, none⟩) (Kd.R_types HOz1.out BKz1.out (by decide)) (fun _ hk => hk.2) (.int .i64 tz0)) (fun _ hk => hk.2) (.int .i64 tz1)) (fun _ hk => hk.2) (.int .i64 tz2)) (fun _ hk => hk.2) (.slice Ao22 tz4.length co22)) (fun _ h_ => h_.1))) (by decide)) hk (fun _ h => h.2)) (fun _ h => h.1)); replace HOz2 := mk (Kd.R_mono (Kd.R_keep (IsS90.apart (show IsS90 w0 _ g s0_0 tz5 from by repeat (with_reducible first | exact HI0.out | refine IsS90.far ?_ NBz3.out _)) (by exact (Kd.R_mono (Kd.R_far (p := ⟨gbz0, 3, none⟩) (Kd.R_far (p := ⟨gbz0, 2, none⟩) (Kd.R_far (p := ⟨gbz0, 1, none⟩) (Kd.R_far (p := ⟨gbz0, 0, none⟩) (Kd.R_types HOz2.out BKz1.out (by decide)) (fun _ hk => hk.2) (.int .i64 tz0)) (fun _ hk => hk.2) (.int .i64 tz1)) (fun _ hk => hk.2) (.int .i64 tz2)) (fun _ hk => hk.2) (.slice Ao22 tz4.length co22)) (fun _ h_ => h_.1))) (by decide)) hk (fun _ h => h.2)) (fun _ h => h.1)); replace HOz3 := mk (Kd.R_mono (Kd.R_keep (IsS90.apart (show IsS90 w0 _ g s0_0 tz5 from by repeat (with_reducible first | exact HI0.out | refine IsS90.far ?_ NBz3.out _)) (by exact (Kd.R_mono (Kd.R_far (p := ⟨gbz0, 3, none⟩) (Kd.R_far (p := ⟨gbz0, 2, none⟩) (Kd.R_far (p := ⟨gbz0, 1, none⟩) (Kd.R_far (p := ⟨gbz0, 0, none⟩) (Kd.R_types HOz3.out BKz1.out (by decide)) (fun _ hk => hk.2) (.int .i64 tz0)) (fun _ hk => hk.2) (.int .i64 tz1)) (fun _ hk => hk.2) (.int .i64 tz2)) (fun _ hk => hk.2) (.slice Ao22 tz4.length co22)) (fun _ h_ => h_.1))) (by decide)) hk (fun _ h => h.2)) (fun _ h => h.1)); replace BKz1 := mk (KeepBut.blk hk (g' := gbz0) (o := .cells #[.int .i64 tz0, .int .i64 tz1, .int .i64 tz2, .slice Ao22 tz4.length co22] 28 (0, 0)) (by refine blk_put (cs := #[.int .i64 tz0, .int .i64 tz1, .int .i64 tz2, .slice none 0 0]) ?_ 3 _ rfl; refine blk_put (cs := #[.int .i64 tz0, .int .i64 tz1, .int .i64 0, .slice none 0 0]) ?_ 2 _ rfl; refine blk_put (cs := #[.int .i64 tz0, .int .i64 0, .int .i64 0, .slice none 0 0]) ?_ 1 _ rfl; refine blk_put (cs := #[.int .i64 0, .int .i64 0, .int .i64 0, .slice none 0 0]) ?_ 0 _ rfl; exact BKz1.out) NBz2.out (by simp)); replace HK := mk (KeepBut.trans (by repeat (with_reducible first | exact HK.out | refine keep_far ?_ GWz1.out _)) hk (.inl rfl)); replace HB := mk (hb); replace HI0 := mk (hi); (try clear hb); (try clear hk); (try clear hi)) | ((with_reducible refine gate_callee (f := 90) rfl ?_); refine goesL_ (some 20) rfl rfl Try.func90 (by kernel_rfl) rfl #[.pointer (some ⟨g, 0, none⟩), .int .i64 256] rfl (by (try simp only [List.map_toArray, List.map_cons, List.map_nil]); rfl) ?_; (with_reducible refine (spec_reader_pick.calls k g s0_0 tz12 256 tz16 tz17 w0 _ ?side1 ?side2 A7.out).mono ?_); (case side1 => repeat (with_reducible exact HI0.out)); (case side2 => repeat (with_reducible exact HB.out)); rintro e w24 ⟨rfl, hi, hb, hk⟩; refine ⟨_, rfl, ?_⟩; have n0_ := mk (KeepBut.blk hk (g' := gbz1) (o := .cells #[.int .i64 0, .int .i64 0, .int .i64 0, .slice none 0 0] 28 (0, 0)) BKz0.out NBz0.out (by simp)); have n3_ := mk (Kd.R_mono (Kd.R_keep (IsS90.apart (show IsS90 w0 _ g s0_0 tz12 from by exact HI0.out) HOz3.out (by decide)) hk (fun _ h => h.2)) (fun _ h => h.1)); have n4_ := mk (KeepBut.blk hk (g' := gbz0) (o := .cells #[.int .i64 tz0, .int .i64 tz1, .int .i64 tz2, .slice Ao22 tz4.length co22] 28 (0, 0)) BKz1.out NBz2.out (by simp)); have n5_ := mk (KeepBut.trans HK.out hk (.inl rfl)); have n6_ := mk (hb); have n7_ := mk (hi); clear BKz0; clear HOz1; clear HOz2; clear HOz3; clear BKz1; clear HK; clear HB; clear HI0; have BKz0 := n0_; have HOz3 := n3_; have BKz1 := n4_; have HK := n5_; have HB := n6_; have HI0 := n7_; (try clear hb); (try clear hk); (try clear hi)))
 go_loopg [7, 8] k (fun kq v7 v8 w' => ∃ (x7_1 : Int) (x8_1 : Int) (x1001_1 : Int) (xz0 : List Int) (u84019003 : Value), v7 = .int .i64 x7_1 ∧ v8 = .int .i64 x8_1 ∧ Aside0 (spec_randomImage.l0 kq tz3 x7_1 x8_1 s0_0 x1001_1 tz0 tz1 tz2 xz0 = some (r1, r2, r3, r4, r5)) ∧ Aside0 (kq ≤ k) ∧ Aside0 (Kd.R (Kd.int .i64) 3 w' w.heap.size (fun _ => True) u84019003 xz0) ∧ Aside0 (w'.heap[gbz1]? = some (.cells #[.int .i64 0, .int .i64 0, .int .i64 0, (.slice none 0 0)] 28 (0, 0))) ∧ Aside0 (w'.heap[gbz0]? = some (.cells #[.int .i64 tz0, .int .i64 tz1, .int .i64 tz2, u84019003] 28 (0, 0))) ∧ Aside0 (IsS90 w0 w' g s0_0 x1001_1) ∧ Aside0 (KeepBut w w' g none) ∧ Aside0 (Below w0.heap.size w0 w'))
 case atStart => exact ⟨(tz16), (0), (tz17), (tz4), (.slice Ao22 tz4.length co22), (by rfl), (by rfl), H', ⟨Nat.le_refl _⟩, ⟨by exact Kd.R_mono HOz3.out (fun _ hk => trivial)⟩, BKz0, BKz1, HI0, HK, HB⟩
 case round =>
  clear H'
  obtain ⟨x7_1, x8_1, x1001_1, xz0, u84019003, rfl, rfl, HA, HK1, HOz0, BKz0, BKz1, HI0, HK, HB⟩ := hrel
  cases gk with
  | zero => exact absurd HA.out (by simp [spec_randomImage.l0])
  | succ k1 =>
   have H := HA.out
   clear HA
   simp only [spec_randomImage.l0] at H
   by_cases c25 : x8_1 < (xz0.length : Int)
   ·rw [if_pos c25] at H
    have c25b0 : decide (x8_1 < (xz0.length : Int)) = true := decide_eq_true c25
    clear c25
    by_cases c26 : tz3 = 0
    ·rw [if_pos c26] at H
     have c26b0 : (tz3 == 0) = true := beq_iff_eq.mpr c26
     clear c26
     replace H := Option.bind_eq_some_iff.mp H
     obtain ⟨⟨tz6, tz13⟩, A270, H⟩ := H
     replace H : (if 0 ≤ x8_1 then (spec_randomImage.l0 k1 tz3 tz6 (wrap64 (x8_1 + 1)) s0_0 tz13 tz0 tz1 tz2 (xz0.set (x8_1 : Int).toNat tz6)) else none) = some (r1, r2, r3, r4, r5) := H
     have A27 := mk A270
     clear A270
     by_cases c28 : 0 ≤ x8_1
     ·rw [if_pos c28] at H
      have c28b0 : decide (0 ≤ x8_1) = true := decide_eq_true c28
      clear c28
      obtain ⟨yz2, hyz2⟩ : ∃ y_ : List Int, y_ = (xz0.set (x8_1 : Int).toNat tz6) := ⟨_, rfl⟩
      replace H : (spec_randomImage.l0 k1 tz3 tz6 (wrap64 (x8_1 + 1)) s0_0 tz13 tz0 tz1 tz2 yz2) = some (r1, r2, r3, r4, r5) := by (rw [hyz2]; with_reducible exact H)
      have Nyz2 := mk hyz2
      clear hyz2
      have H' := mk H
      clear H
      have hcz32_3 : wr.cell? ⟨gbz0, 3, none⟩ = some u84019003 := (blk_cell BKz1.out 3).trans rfl
      obtain ⟨Ao33, co33, eo33⟩ := Kd.R_slice HOz0.out
      subst eo33
      go_wp2_with (first | ((with_reducible refine gate_callee (f := 90) rfl ?_); refine goesL_ (some 32) rfl rfl Try.func90 (by kernel_rfl) rfl #[.pointer (some ⟨g, 0, none⟩), .int .i64 256] rfl (by (try simp only [List.map_toArray, List.map_cons, List.map_nil]); rfl) ?_; (with_reducible refine (spec_reader_pick.calls k1 g s0_0 x1001_1 256 tz6 tz13 w0 _ ?side1 ?side2 A27.out).mono ?_); (case side1 => repeat (with_reducible exact HI0.out)); (case side2 => repeat (with_reducible exact HB.out)); rintro e w34 ⟨rfl, hi, hb, hk⟩; refine ⟨_, rfl, ?_⟩; replace HOz0 := mk (Kd.R_mono (Kd.R_keep (IsS90.apart (show IsS90 w0 _ g s0_0 x1001_1 from by exact HI0.out) HOz0.out (by decide)) hk (fun _ h => h.2)) (fun _ h => h.1)); replace BKz0 := mk (KeepBut.blk hk (g' := gbz1) (o := .cells #[.int .i64 0, .int .i64 0, .int .i64 0, .slice none 0 0] 28 (0, 0)) BKz0.out NBz0.out (by simp)); replace BKz1 := mk (KeepBut.blk hk (g' := gbz0) (o := .cells #[.int .i64 tz0, .int .i64 tz1, .int .i64 tz2, .slice Ao33 xz0.length co33] 28 (0, 0)) BKz1.out NBz2.out (by simp)); replace HK := mk (KeepBut.trans HK.out hk (.inl rfl)); replace HB := mk (hb); replace HI0 := mk (hi); (try clear hb); (try clear hk); (try clear hi); have hcz35_3 : w34.cell? ⟨gbz0, 3, none⟩ = some (.slice Ao33 xz0.length co33) := (blk_cell BKz1.out 3).trans rfl; have p29 : 0 ≤ (x8_1 : Int) := of_decide_eq_true (by (with_reducible assumption)); have q29 : (x8_1 : Int) < ((xz0.length : Int) : Int) := of_decide_eq_true (by (with_reducible assumption)); obtain ⟨go29, co29, eo29, gb29, gl29, cl29, HG29⟩ := Kd.R_form HOz0.out (by omega); (cases eo29); have GB29 := mk gb29; clear gb29 gl29 HG29; obtain ⟨hx29_0, hf29_0⟩ := Kd.R_celln 0 HOz0.out (x8_1 : Int) p29 q29; replace p29 := eq_true p29; replace q29 := eq_true q29; obtain ⟨hy36_, hz36_⟩ := Kd.R_celln 0 HOz0.out (x8_1 : Int) (of_decide_eq_true (by (with_reducible assumption))) (of_decide_eq_true (by (with_reducible assumption))); have HP36 := Kd.R_putg HOz0.out (x8_1 : Int) tz6) | ((with_reducible refine gate_store (t := 3) (p := 50) rfl ?_); refine store_event (t := 3) (p := 50) (v := ?vo_w37) (w1 := (w34.setCell ⟨go29, (x8_1 : Int).toNat, none⟩ (.int .i64 tz6))) ?hg ?ho ?hn ?hr ?_; (case ho => rfl); (case hg => rfl); (case hn => rfl); (case hr => (go_simp; done)); intro w37 hw; have hg : w34.grownBy w37 (some go29) := (by rw [hw]; exact HP36.2); have hp_ : Kd.R (Kd.int .i64) 3 w37 w.heap.size (fun _ => True) (.slice (some ⟨go29, 0, none⟩) xz0.length co33) yz2 := (by rw [hw, Nyz2.out]; exact HP36.1); clear HP36; replace BKz0 := mk (blk_grown (g := gbz1) (o := .cells #[.int .i64 0, .int .i64 0, .int .i64 0, .slice none 0 0] 28 (0, 0)) BKz0.out hg (Kd.R_ne HOz0.out BKz0.out (by decide))); replace BKz1 := mk (blk_grown (g := gbz0) (o := .cells #[.int .i64 tz0, .int .i64 tz1, .int .i64 tz2, .slice (some ⟨go29, 0, none⟩) xz0.length co33] 28 (0, 0)) BKz1.out hg (Kd.R_ne HOz0.out BKz1.out (by decide))); replace HI0 := mk (IsS90.grown HI0.out hg (IsS90.own_ne HI0.out HOz0.out (by decide))); replace HB := mk ((by rw [hw]; exact below_set HB.out (Nat.le_trans HL.out GB29.out) : Below w0.heap.size w0 w37)); replace HK := mk (KeepBut.trans HK.out (KeepBut.of_grown hg g) (Kd.R_base2 HOz0.out)); replace HOz0 := mk (hp_); clear hg hw hp_))
      go_roundg k1
      case measure => have := HK1.out; omega
      case rel => exact ⟨(tz6), (wrap64 (x8_1 + 1)), (tz13), (yz2), (.slice (some ⟨go29, 0, none⟩) xz0.length co33), (by rfl), (by rfl), H', ⟨by have := HK1.out; omega⟩, HOz0, BKz0, BKz1, HI0, HK, HB⟩
     rw [if_neg c28] at H
     exact absurd H (by simp)
    rw [if_neg c26] at H
    have c26b0 : (tz3 == 0) = false := beq_eq_false_iff_ne.mpr c26
    have c26b1 : (tz3 != 0) = true := bne_iff_ne.mpr c26
    by_cases c38 : tz3 = 1
    ·rw [if_pos c38] at H
     have c38b0 : (tz3 == 1) = true := beq_iff_eq.mpr c38
     clear c38
     replace H := Option.bind_eq_some_iff.mp H
     obtain ⟨⟨tz7, tz14⟩, A390, H⟩ := H
     replace H : (if 0 ≤ x8_1 then (spec_randomImage.l0 k1 tz3 (Int.tmod (wrap64 ((wrap64 (x7_1 + tz7)) + 254)) 256) (wrap64 (x8_1 + 1)) s0_0 tz14 tz0 tz1 tz2 (xz0.set (x8_1 : Int).toNat (Int.tmod (wrap64 ((wrap64 (x7_1 + tz7)) + 254)) 256))) else none) = some (r1, r2, r3, r4, r5) := H
     have A39 := mk A390
     clear A390
     by_cases c40 : 0 ≤ x8_1
     ·rw [if_pos c40] at H
      have c40b0 : decide (0 ≤ x8_1) = true := decide_eq_true c40
      clear c40
      obtain ⟨yz3, hyz3⟩ : ∃ y_ : List Int, y_ = (xz0.set (x8_1 : Int).toNat (Int.tmod (wrap64 ((wrap64 (x7_1 + tz7)) + 254)) 256)) := ⟨_, rfl⟩
      replace H : (spec_randomImage.l0 k1 tz3 (Int.tmod (wrap64 ((wrap64 (x7_1 + tz7)) + 254)) 256) (wrap64 (x8_1 + 1)) s0_0 tz14 tz0 tz1 tz2 yz3) = some (r1, r2, r3, r4, r5) := by (rw [hyz3]; with_reducible exact H)
      have Nyz3 := mk hyz3
      clear hyz3
      have H' := mk H
      clear H
      have hcz44_3 : wr.cell? ⟨gbz0, 3, none⟩ = some u84019003 := (blk_cell BKz1.out 3).trans rfl
      obtain ⟨Ao45, co45, eo45⟩ := Kd.R_slice HOz0.out
      subst eo45
      go_wp2_with (first | ((with_reducible refine gate_callee (f := 90) rfl ?_); refine goesL_ (some 37) rfl rfl Try.func90 (by kernel_rfl) rfl #[.pointer (some ⟨g, 0, none⟩), .int .i64 5] rfl (by (try simp only [List.map_toArray, List.map_cons, List.map_nil]); rfl) ?_; (with_reducible refine (spec_reader_pick.calls k1 g s0_0 x1001_1 5 tz7 tz14 w0 _ ?side1 ?side2 A39.out).mono ?_); (case side1 => repeat (with_reducible exact HI0.out)); (case side2 => repeat (with_reducible exact HB.out)); rintro e w46 ⟨rfl, hi, hb, hk⟩; refine ⟨_, rfl, ?_⟩; replace HOz0 := mk (Kd.R_mono (Kd.R_keep (IsS90.apart (show IsS90 w0 _ g s0_0 x1001_1 from by exact HI0.out) HOz0.out (by decide)) hk (fun _ h => h.2)) (fun _ h => h.1)); replace BKz0 := mk (KeepBut.blk hk (g' := gbz1) (o := .cells #[.int .i64 0, .int .i64 0, .int .i64 0, .slice none 0 0] 28 (0, 0)) BKz0.out NBz0.out (by simp)); replace BKz1 := mk (KeepBut.blk hk (g' := gbz0) (o := .cells #[.int .i64 tz0, .int .i64 tz1, .int .i64 tz2, .slice Ao45 xz0.length co45] 28 (0, 0)) BKz1.out NBz2.out (by simp)); replace HK := mk (KeepBut.trans HK.out hk (.inl rfl)); replace HB := mk (hb); replace HI0 := mk (hi); (try clear hb); (try clear hk); (try clear hi); have hcz47_3 : w46.cell? ⟨gbz0, 3, none⟩ = some (.slice Ao45 xz0.length co45) := (blk_cell BKz1.out 3).trans rfl; have p41 : 0 ≤ (x8_1 : Int) := of_decide_eq_true (by (with_reducible assumption)); have q41 : (x8_1 : Int) < ((xz0.length : Int) : Int) := of_decide_eq_true (by (with_reducible assumption)); obtain ⟨go41, co41, eo41, gb41, gl41, cl41, HG41⟩ := Kd.R_form HOz0.out (by omega); (cases eo41); have GB41 := mk gb41; clear gb41 gl41 HG41; obtain ⟨hx41_0, hf41_0⟩ := Kd.R_celln 0 HOz0.out (x8_1 : Int) p41 q41; replace p41 := eq_true p41; replace q41 := eq_true q41; obtain ⟨hy48_, hz48_⟩ := Kd.R_celln 0 HOz0.out (x8_1 : Int) (of_decide_eq_true (by (with_reducible assumption))) (of_decide_eq_true (by (with_reducible assumption))); have HP48 := Kd.R_putg HOz0.out (x8_1 : Int) (Int.tmod (wrap64 ((wrap64 (x7_1 + tz7)) + 254)) 256)) | ((with_reducible refine gate_store (t := 3) (p := 50) rfl ?_); refine store_event (t := 3) (p := 50) (v := ?vo_w49) (w1 := (w46.setCell ⟨go41, (x8_1 : Int).toNat, none⟩ (.int .i64 (Int.tmod (wrap64 ((wrap64 (x7_1 + tz7)) + 254)) 256)))) ?hg ?ho ?hn ?hr ?_; (case ho => rfl); (case hg => rfl); (case hn => rfl); (case hr => (go_simp; done)); intro w49 hw; have hg : w46.grownBy w49 (some go41) := (by rw [hw]; exact HP48.2); have hp_ : Kd.R (Kd.int .i64) 3 w49 w.heap.size (fun _ => True) (.slice (some ⟨go41, 0, none⟩) xz0.length co45) yz3 := (by rw [hw, Nyz3.out]; exact HP48.1); clear HP48; replace BKz0 := mk (blk_grown (g := gbz1) (o := .cells #[.int .i64 0, .int .i64 0, .int .i64 0, .slice none 0 0] 28 (0, 0)) BKz0.out hg (Kd.R_ne HOz0.out BKz0.out (by decide))); replace BKz1 := mk (blk_grown (g := gbz0) (o := .cells #[.int .i64 tz0, .int .i64 tz1, .int .i64 tz2, .slice (some ⟨go41, 0, none⟩) xz0.length co45] 28 (0, 0)) BKz1.out hg (Kd.R_ne HOz0.out BKz1.out (by decide))); replace HI0 := mk (IsS90.grown HI0.out hg (IsS90.own_ne HI0.out HOz0.out (by decide))); replace HB := mk ((by rw [hw]; exact below_set HB.out (Nat.le_trans HL.out GB41.out) : Below w0.heap.size w0 w49)); replace HK := mk (KeepBut.trans HK.out (KeepBut.of_grown hg g) (Kd.R_base2 HOz0.out)); replace HOz0 := mk (hp_); clear hg hw hp_))
      go_roundg k1
      case measure => have := HK1.out; omega
      case rel => exact ⟨(Int.tmod (wrap64 ((wrap64 (x7_1 + tz7)) + 254)) 256), (wrap64 (x8_1 + 1)), (tz14), (yz3), (.slice (some ⟨go41, 0, none⟩) xz0.length co45), (by rfl), (by rfl), H', ⟨by have := HK1.out; omega⟩, HOz0, BKz0, BKz1, HI0, HK, HB⟩
     rw [if_neg c40] at H
     exact absurd H (by simp)
    rw [if_neg c38] at H
    have c38b0 : (tz3 == 1) = false := beq_eq_false_iff_ne.mpr c38
    have c38b1 : (tz3 != 1) = true := bne_iff_ne.mpr c38
    by_cases c50 : tz3 = 2
    ·rw [if_pos c50] at H
     have c50b0 : (tz3 == 2) = true := beq_iff_eq.mpr c50
     clear c50
     replace H := Option.bind_eq_some_iff.mp H
     obtain ⟨⟨tz8, tz15⟩, A510, H⟩ := H
     replace H : (if 0 ≤ x8_1 then (spec_randomImage.l0 k1 tz3 (wrap64 (60 * tz8)) (wrap64 (x8_1 + 1)) s0_0 tz15 tz0 tz1 tz2 (xz0.set (x8_1 : Int).toNat (wrap64 (60 * tz8)))) else none) = some (r1, r2, r3, r4, r5) := H
     have A51 := mk A510
     clear A510
     by_cases c52 : 0 ≤ x8_1
     ·rw [if_pos c52] at H
      have c52b0 : decide (0 ≤ x8_1) = true := decide_eq_true c52
      clear c52
      obtain ⟨yz4, hyz4⟩ : ∃ y_ : List Int, y_ = (xz0.set (x8_1 : Int).toNat (wrap64 (60 * tz8))) := ⟨_, rfl⟩
      replace H : (spec_randomImage.l0 k1 tz3 (wrap64 (60 * tz8)) (wrap64 (x8_1 + 1)) s0_0 tz15 tz0 tz1 tz2 yz4) = some (r1, r2, r3, r4, r5) := by (rw [hyz4]; with_reducible exact H)
      have Nyz4 := mk hyz4
      clear hyz4
      have H' := mk H
      clear H
      have hcz56_3 : wr.cell? ⟨gbz0, 3, none⟩ = some u84019003 := (blk_cell BKz1.out 3).trans rfl
      obtain ⟨Ao57, co57, eo57⟩ := Kd.R_slice HOz0.out
      subst eo57
      go_wp2_with (first | ((with_reducible refine gate_callee (f := 90) rfl ?_); refine goesL_ (some 44) rfl rfl Try.func90 (by kernel_rfl) rfl #[.pointer (some ⟨g, 0, none⟩), .int .i64 4] rfl (by (try simp only [List.map_toArray, List.map_cons, List.map_nil]); rfl) ?_; (with_reducible refine (spec_reader_pick.calls k1 g s0_0 x1001_1 4 tz8 tz15 w0 _ ?side1 ?side2 A51.out).mono ?_); (case side1 => repeat (with_reducible exact HI0.out)); (case side2 => repeat (with_reducible exact HB.out)); rintro e w58 ⟨rfl, hi, hb, hk⟩; refine ⟨_, rfl, ?_⟩; replace HOz0 := mk (Kd.R_mono (Kd.R_keep (IsS90.apart (show IsS90 w0 _ g s0_0 x1001_1 from by exact HI0.out) HOz0.out (by decide)) hk (fun _ h => h.2)) (fun _ h => h.1)); replace BKz0 := mk (KeepBut.blk hk (g' := gbz1) (o := .cells #[.int .i64 0, .int .i64 0, .int .i64 0, .slice none 0 0] 28 (0, 0)) BKz0.out NBz0.out (by simp)); replace BKz1 := mk (KeepBut.blk hk (g' := gbz0) (o := .cells #[.int .i64 tz0, .int .i64 tz1, .int .i64 tz2, .slice Ao57 xz0.length co57] 28 (0, 0)) BKz1.out NBz2.out (by simp)); replace HK := mk (KeepBut.trans HK.out hk (.inl rfl)); replace HB := mk (hb); replace HI0 := mk (hi); (try clear hb); (try clear hk); (try clear hi); have hcz59_3 : w58.cell? ⟨gbz0, 3, none⟩ = some (.slice Ao57 xz0.length co57) := (blk_cell BKz1.out 3).trans rfl; have p53 : 0 ≤ (x8_1 : Int) := of_decide_eq_true (by (with_reducible assumption)); have q53 : (x8_1 : Int) < ((xz0.length : Int) : Int) := of_decide_eq_true (by (with_reducible assumption)); obtain ⟨go53, co53, eo53, gb53, gl53, cl53, HG53⟩ := Kd.R_form HOz0.out (by omega); (cases eo53); have GB53 := mk gb53; clear gb53 gl53 HG53; obtain ⟨hx53_0, hf53_0⟩ := Kd.R_celln 0 HOz0.out (x8_1 : Int) p53 q53; replace p53 := eq_true p53; replace q53 := eq_true q53; obtain ⟨hy60_, hz60_⟩ := Kd.R_celln 0 HOz0.out (x8_1 : Int) (of_decide_eq_true (by (with_reducible assumption))) (of_decide_eq_true (by (with_reducible assumption))); have HP60 := Kd.R_putg HOz0.out (x8_1 : Int) (wrap64 (60 * tz8))) | ((with_reducible refine gate_store (t := 3) (p := 50) rfl ?_); refine store_event (t := 3) (p := 50) (v := ?vo_w61) (w1 := (w58.setCell ⟨go53, (x8_1 : Int).toNat, none⟩ (.int .i64 (wrap64 (60 * tz8))))) ?hg ?ho ?hn ?hr ?_; (case ho => rfl); (case hg => rfl); (case hn => rfl); (case hr => (go_simp; done)); intro w61 hw; have hg : w58.grownBy w61 (some go53) := (by rw [hw]; exact HP60.2); have hp_ : Kd.R (Kd.int .i64) 3 w61 w.heap.size (fun _ => True) (.slice (some ⟨go53, 0, none⟩) xz0.length co57) yz4 := (by rw [hw, Nyz4.out]; exact HP60.1); clear HP60; replace BKz0 := mk (blk_grown (g := gbz1) (o := .cells #[.int .i64 0, .int .i64 0, .int .i64 0, .slice none 0 0] 28 (0, 0)) BKz0.out hg (Kd.R_ne HOz0.out BKz0.out (by decide))); replace BKz1 := mk (blk_grown (g := gbz0) (o := .cells #[.int .i64 tz0, .int .i64 tz1, .int .i64 tz2, .slice (some ⟨go53, 0, none⟩) xz0.length co57] 28 (0, 0)) BKz1.out hg (Kd.R_ne HOz0.out BKz1.out (by decide))); replace HI0 := mk (IsS90.grown HI0.out hg (IsS90.own_ne HI0.out HOz0.out (by decide))); replace HB := mk ((by rw [hw]; exact below_set HB.out (Nat.le_trans HL.out GB53.out) : Below w0.heap.size w0 w61)); replace HK := mk (KeepBut.trans HK.out (KeepBut.of_grown hg g) (Kd.R_base2 HOz0.out)); replace HOz0 := mk (hp_); clear hg hw hp_))
      go_roundg k1
      case measure => have := HK1.out; omega
      case rel => exact ⟨(wrap64 (60 * tz8)), (wrap64 (x8_1 + 1)), (tz15), (yz4), (.slice (some ⟨go53, 0, none⟩) xz0.length co57), (by rfl), (by rfl), H', ⟨by have := HK1.out; omega⟩, HOz0, BKz0, BKz1, HI0, HK, HB⟩
     rw [if_neg c52] at H
     exact absurd H (by simp)
    rw [if_neg c50] at H
    have c50b0 : (tz3 == 2) = false := beq_eq_false_iff_ne.mpr c50
    have c50b1 : (tz3 != 2) = true := bne_iff_ne.mpr c50
    by_cases c62 : 0 ≤ x8_1
    ·rw [if_pos c62] at H
     have c62b0 : decide (0 ≤ x8_1) = true := decide_eq_true c62
     clear c62
     obtain ⟨yz5, hyz5⟩ : ∃ y_ : List Int, y_ = (xz0.set (x8_1 : Int).toNat x7_1) := ⟨_, rfl⟩
     replace H : (spec_randomImage.l0 k1 tz3 x7_1 (wrap64 (x8_1 + 1)) s0_0 x1001_1 tz0 tz1 tz2 yz5) = some (r1, r2, r3, r4, r5) := by (rw [hyz5]; with_reducible exact H)
     have Nyz5 := mk hyz5
     clear hyz5
     have H' := mk H
     clear H
     have hcz66_3 : wr.cell? ⟨gbz0, 3, none⟩ = some u84019003 := (blk_cell BKz1.out 3).trans rfl
     obtain ⟨Ao67, co67, eo67⟩ := Kd.R_slice HOz0.out
     subst eo67
     have p63 : 0 ≤ (x8_1 : Int) := of_decide_eq_true (by (with_reducible assumption))
     have q63 : (x8_1 : Int) < ((xz0.length : Int) : Int) := of_decide_eq_true (by (with_reducible assumption))
     obtain ⟨go63, co63, eo63, gb63, gl63, cl63, HG63⟩ := Kd.R_form HOz0.out (by omega)
     (cases eo63)
     have GB63 := mk gb63
     clear gb63 gl63 HG63
     obtain ⟨hx63_0, hf63_0⟩ := Kd.R_celln 0 HOz0.out (x8_1 : Int) p63 q63
     replace p63 := eq_true p63
     replace q63 := eq_true q63
     have HP68 := Kd.R_putg HOz0.out (x8_1 : Int) x7_1
     go_wp2_with (first | ((with_reducible refine gate_store (t := 3) (p := 50) rfl ?_); refine store_event (t := 3) (p := 50) (v := ?vo_w69) (w1 := (wr.setCell ⟨go63, (x8_1 : Int).toNat, none⟩ (.int .i64 x7_1))) ?hg ?ho ?hn ?hr ?_; (case ho => rfl); (case hg => rfl); (case hn => rfl); (case hr => (go_simp; done)); intro w69 hw; have hg : wr.grownBy w69 (some go63) := (by rw [hw]; exact HP68.2); have hp_ : Kd.R (Kd.int .i64) 3 w69 w.heap.size (fun _ => True) (.slice (some ⟨go63, 0, none⟩) xz0.length co67) yz5 := (by rw [hw, Nyz5.out]; exact HP68.1); clear HP68; replace BKz0 := mk (blk_grown (g := gbz1) (o := .cells #[.int .i64 0, .int .i64 0, .int .i64 0, .slice none 0 0] 28 (0, 0)) BKz0.out hg (Kd.R_ne HOz0.out BKz0.out (by decide))); replace BKz1 := mk (blk_grown (g := gbz0) (o := .cells #[.int .i64 tz0, .int .i64 tz1, .int .i64 tz2, .slice (some ⟨go63, 0, none⟩) xz0.length co67] 28 (0, 0)) BKz1.out hg (Kd.R_ne HOz0.out BKz1.out (by decide))); replace HI0 := mk (IsS90.grown HI0.out hg (IsS90.own_ne HI0.out HOz0.out (by decide))); replace HB := mk ((by rw [hw]; exact below_set HB.out (Nat.le_trans HL.out GB63.out) : Below w0.heap.size w0 w69)); replace HK := mk (KeepBut.trans HK.out (KeepBut.of_grown hg g) (Kd.R_base2 HOz0.out)); replace HOz0 := mk (hp_); clear hg hw hp_))
     go_roundg k1
     case measure => have := HK1.out; omega
     case rel => exact ⟨(x7_1), (wrap64 (x8_1 + 1)), (x1001_1), (yz5), (.slice (some ⟨go63, 0, none⟩) xz0.length co67), (by rfl), (by rfl), H', ⟨by have := HK1.out; omega⟩, HOz0, BKz0, BKz1, HI0, HK, HB⟩
    rw [if_neg c62] at H
    exact absurd H (by simp)
   rw [if_neg c25] at H
   have c25b0 : decide (x8_1 < (xz0.length : Int)) = false := decide_eq_false c25
   clear c25
   simp only [Option.some.injEq, Prod.mk.injEq] at H
   obtain ⟨rfl, rfl, rfl, rfl, rfl⟩ := H
   obtain ⟨hcz72_0, hcz72_1, hcz72_2, -⟩ := c4 BKz1.out
   have hcz72_3 : wr.cell? ⟨gbz0, 3, none⟩ = some u84019003 := (blk_cell BKz1.out 3).trans rfl
   obtain ⟨Ao73, co73, eo73⟩ := Kd.R_slice HOz0.out
   subst eo73
   obtain ⟨hcz75_0, hcz75_1, hcz75_2, hcz75_3, hfz75_0, hfz75_1, hfz75_2, hfz75_3⟩ := c4 BKz0.out
   go_wp2
   refine bodyPost_ret (results_cell_row rfl _ _ gbz1 28 #[.int .i64 tz0, .int .i64 tz1, .int .i64 tz2, .slice Ao73 xz0.length co73] (0, 0) _ rfl (by refine blk_put (cs := #[.int .i64 tz0, .int .i64 tz1, .int .i64 tz2, .slice none 0 0]) ?_ 3 _ rfl; refine blk_put (cs := #[.int .i64 tz0, .int .i64 tz1, .int .i64 0, .slice none 0 0]) ?_ 2 _ rfl; refine blk_put (cs := #[.int .i64 tz0, .int .i64 0, .int .i64 0, .slice none 0 0]) ?_ 1 _ rfl; refine blk_put (cs := #[.int .i64 0, .int .i64 0, .int .i64 0, .slice none 0 0]) ?_ 0 _ rfl; exact BKz0.out) Try.underlying28 rfl (by kernel_rfl)) rfl ?_
   exact ⟨_, by rfl, by exact Kd.R_mono (Kd.R_far (p := ⟨gbz1, 3, none⟩) (Kd.R_far (p := ⟨gbz1, 2, none⟩) (Kd.R_far (p := ⟨gbz1, 1, none⟩) (Kd.R_far (p := ⟨gbz1, 0, none⟩) (Kd.R_types HOz0.out BKz0.out (by decide)) (fun _ hk => hk.2) (.int .i64 tz0)) (fun _ hk => hk.2) (.int .i64 tz1)) (fun _ hk => hk.2) (.int .i64 tz2)) (fun _ hk => hk.2) (.slice Ao73 xz0.length co73)) (fun _ hk => trivial), by repeat (with_reducible first | exact HI0.out | refine IsS90.far ?_ NBz4.out _), by repeat (with_reducible first | exact HB.out | refine below_set ?_ GEz0.out), by repeat (with_reducible first | exact HK.out | refine keep_far ?_ GWz0.out _)⟩


def spec_anyPlanes.f (k : Nat) (s0_0 : List Int) (s0_1 : Int) : Option (Int × Int) := (spec_reader_one.f k s0_0 s0_1 (([1, 3, 1, 4, 2] : List Int))).bind fun bt85004 => (some (bt85004.1, bt85004.2))
theorem spec_anyPlanes.calls (k : Nat) (g : Nat) (s0_0 : List Int) (s0_1 : Int) (r1 : Int) (r2 : Int) (w0 w : World) (hI : IsS90 w0 w g s0_0 s0_1) (hB : Below w0.heap.size w0 w) (h : spec_anyPlanes.f k s0_0 s0_1 = some (r1, r2)) :
  Calls Try.prog 84 #[.pointer (some ⟨g, 0, none⟩)] w fun e w' => e = .returned (.int .i64 r1) ∧ IsS90 w0 w' g s0_0 r2 ∧ Below w0.heap.size w0 w' ∧ KeepBut w w' g none := by
 have HI0 := mk hI
 have HK := mk (KeepBut.refl w g none)
 have HL := mk hB.size
 clear hI
 have HW0 := mk hB.size
 have HB := mk hB
 clear hB
 have H : ((spec_reader_one.f k s0_0 s0_1 (([1, 3, 1, 4, 2] : List Int))).bind fun bt85004 => (some (bt85004.1, bt85004.2))) = some (r1, r2) := h
 clear h
 obtain ⟨y85001, hy85001⟩ : ∃ y_ : List Int, y_ = (([1, 3, 1, 4, 2] : List Int)) := ⟨_, rfl⟩
 replace H : ((spec_reader_one.f k s0_0 s0_1 y85001).bind fun bt85004 => (some (bt85004.1, bt85004.2))) = some (r1, r2) := by first | (rw [hy85001]; with_reducible exact H) | (have H2_ := (Option.bind_some _ _).symm.trans H; rw [hy85001]; with_reducible exact H2_) | (have H2_ := (Option.bind_some _ _).symm.trans H; with_reducible exact H2_) | with_reducible exact H | (rw [hy85001]; exact H) | exact H
 have Ny85001 := mk hy85001
 clear hy85001
 replace H := Option.bind_eq_some_iff.mp H
 obtain ⟨⟨t85004, t85005⟩, A20, H⟩ := H
 replace H : (some (t85004, t85005)) = some (r1, r2) := H
 have A2 := mk A20
 clear A20
 simp only [Option.some.injEq, Prod.mk.injEq] at H
 obtain ⟨rfl, rfl⟩ := H
 go_enter Try.func84, Try.ntmps84
 go_wp2_with (first | ((with_reducible refine gate_dst (N := 4) rfl ?_); refine Kd.R_lit (Kd.int .i64) _ 3 ?hg (N := 4) ?hd (xs := ([1, 3, 1, 4, 2] : List Int)) (inner := [.int .i64 1, .int .i64 3, .int .i64 1, .int .i64 4, .int .i64 2]) (ok := fun _ => True) (okp := fun _ => True) ?hr ?hp (fun _ hk => hk) trivial (Below.refl _ _) (Nat.le_refl _) (by simp) ?_; (case hd => rfl); (case hg => rfl); (case hr => first | (go_simp; done) | (go_simp; rfl)); (case hp => exact (Reps.one (show Kd.M (Kd.int .i64) _ _ _ 1 [.int .i64 1] from rfl) (Reps.one (show Kd.M (Kd.int .i64) _ _ _ 3 [.int .i64 3] from rfl) (Reps.one (show Kd.M (Kd.int .i64) _ _ _ 1 [.int .i64 1] from rfl) (Reps.one (show Kd.M (Kd.int .i64) _ _ _ 4 [.int .i64 4] from rfl) (Reps.one (show Kd.M (Kd.int .i64) _ _ _ 2 [.int .i64 2] from rfl) (Reps.none _ _))))))); intro v85002 w3 ho4 hb hg_ hnew_; clear hg_ hnew_; (first | rw [← Ny85001.out] at ho4 | (simp only [Int.reduceToNat] at ho4; rw [← Ny85001.out] at ho4)); have n0_ := mk (Kd.R_lower ho4 (keep_size (w := w) (g := g) (row := none) (by repeat (first | (with_reducible first | exact HK.out | apply KeepBut.set_ | apply keep_drewN | apply keep_drew | apply keep_alloc) | exact HK.out)))); have n1_ := mk (IsS90.below (by repeat (first | (with_reducible first | exact HI0.out | apply IsS90.alloc | apply IsS90.drewN | apply IsS90.drew | apply IsS90.set_1) | exact HI0.out)) hb); have n2_ := mk (KeepBut.trans (by repeat (first | (with_reducible first | exact HK.out | apply KeepBut.set_ | apply keep_drewN | apply keep_drew | apply keep_alloc) | exact HK.out)) (KeepBut.of_below hb g none) (.inl rfl)); have n3_ := mk (below_step (by repeat (first | (with_reducible first | exact HB.out | apply below_alloc | apply pw_below_drewN | apply below_drew1 | refine below_set ?_ (IsS90.ge HI0.out)) | exact HB.out)) hb); clear HI0; clear HK; clear HB; have HO85003 := n0_; have HI0 := n1_; have HK := n2_; have HB := n3_; clear n0_ n1_ n2_ n3_; clear hb ho4; obtain ⟨Ao5, co5, eo5⟩ := Kd.R_slice HO85003.out; subst eo5) | ((with_reducible refine gate_callee (f := 85) rfl ?_); refine goesL_ (some 5) rfl rfl Try.func85 (by kernel_rfl) rfl #[.pointer (some ⟨g, 0, none⟩), .slice Ao5 y85001.length co5] rfl (by (try simp only [List.map_toArray, List.map_cons, List.map_nil]); first | done | rfl | (simp only [List.length_drop, List.length_take]; rfl)) ?_; (with_reducible refine (spec_reader_one.calls k g s0_0 s0_1 _ _ y85001 t85004 t85005 w0 _ ?side1 ?side2 ?side3 ?side4 ?side5 A2.out).mono ?_); (case side1 => repeat (first | (with_reducible first | exact HI0.out | apply IsS90.alloc | apply IsS90.drewN | apply IsS90.drew | apply IsS90.set_1) | exact HI0.out)); (case side2 => repeat (first | (with_reducible first | exact HB.out | apply below_alloc | apply pw_below_drewN | apply below_drew1 | refine below_set ?_ (IsS90.ge HI0.out)) | exact HB.out)); (case side3 => repeat (first | exact (Kd.R_reads' HO85003.out).2.2 | (with_reducible refine Kd.C_alloc ?_ _) | (with_reducible refine Kd.C_drewN ?_ _) | (with_reducible refine Kd.C_drew ?_))); (case side4 => exact (Kd.R_reads' HO85003.out).2.1); (case side5 => exact far_slice (IsS90.own_ne HI0.out HO85003.out (by decide))); rintro e w6 ⟨rfl, hi, hb, hk⟩; refine ⟨_, rfl, ?_⟩; have n0_ := mk (Kd.R_mono (Kd.R_keep (IsS90.apart (show IsS90 w0 _ g s0_0 s0_1 from by repeat (first | (with_reducible first | exact HI0.out | apply IsS90.alloc | apply IsS90.drewN | apply IsS90.drew | apply IsS90.set_1) | exact HI0.out)) (by exact HO85003.out) (by decide)) hk (fun _ h => h.2)) (fun _ h => h.1)); have n1_ := mk (KeepBut.trans (by repeat (first | (with_reducible first | exact HK.out | apply KeepBut.set_ | apply keep_drewN | apply keep_drew | apply keep_alloc) | exact HK.out)) hk (.inl rfl)); have n2_ := mk (hb); have n3_ := mk (hi); clear HO85003; clear HK; clear HB; clear HI0; have HO85003 := n0_; have HK := n1_; have HB := n2_; have HI0 := n3_; clear n0_ n1_ n2_ n3_; (try clear hb); (try clear hb2); (try clear hk); (try clear hi)))
 go_ret
 exact ⟨by first | rfl | (simp [errW_none, errW_some] <;> rfl) | (simp [*, errW_none, errW_some] <;> rfl), by repeat (first | (with_reducible first | exact HI0.out | apply IsS90.alloc | apply IsS90.drewN | apply IsS90.drew | apply IsS90.set_1) | exact HI0.out), by repeat (first | (with_reducible first | exact HB.out | apply below_alloc | apply pw_below_drewN | apply below_drew1 | refine below_set ?_ (IsS90.ge HI0.out)) | exact HB.out), by repeat (first | (with_reducible first | exact HK.out | apply KeepBut.set_ | apply keep_drewN | apply keep_drew | apply keep_alloc) | exact HK.out)⟩


/- A row that may begin inside its block, and whose block is younger than was told. -/

theorem qraise {α : Type} {d : Kd α} {e : Nat} {W : World} {b b' : Nat} {ok : Nat → Prop} {v : Value} {xs : List α} (hM : ∀ w ok x cs, d.M w b ok x cs → d.M w b' ok x cs) (h : d.Q e W b ok v xs) (hb : ∀ k, v.ownBlock = some k → b' ≤ k) : d.Q e W b' ok v xs := by
  obtain ⟨h0, inner, ho, hr⟩ := h
  refine ⟨h0, inner, ?_, hr.imp_ (fun _ _ hp => hM _ _ _ _ hp)⟩
  obtain ⟨h1, h2⟩ := ho
  refine ⟨h1, ?_⟩
  rcases h2 with ⟨hz, A, rfl, hA⟩ | ⟨g, off, cap, cur, rfl, _, r⟩
  · refine .inl ⟨hz, A, rfl, fun a ha => ⟨?_, (hA a ha).2⟩⟩
    subst ha
    exact hb a.block (by simp [Value.ownBlock])
  · exact .inr ⟨g, off, cap, cur, rfl, hb g (by simp [Value.ownBlock]), r⟩

def spec_anyImage.f (k : Nat) (s0_0 : List Int) (s0_1 : Int) : Option (Int × Int × Int × List Int × Int) := (spec_anyPlanes.f k s0_0 s0_1).bind fun btz2 => ((spec_randomImage.f k s0_0 btz2.2 btz2.1).bind fun btz1 => ((spec_spoilImage.f k s0_0 btz1.2.2.2.2 btz1.1 btz1.2.1 btz1.2.2.1 btz1.2.2.2.1).bind fun btz0 => (some (btz0.1, btz0.2.1, btz0.2.2.1, btz0.2.2.2.1, btz0.2.2.2.2))))
theorem spec_anyImage.calls (k : Nat) (g : Nat) (s0_0 : List Int) (s0_1 : Int) (r1 : Int) (r2 : Int) (r3 : Int) (r4 : List Int) (r5 : Int) (w0 w : World) (hI : IsS90 w0 w g s0_0 s0_1) (hB : Below w0.heap.size w0 w) (h : spec_anyImage.f k s0_0 s0_1 = some (r1, r2, r3, r4, r5)) :
  Calls Try.prog 50 #[.pointer (some ⟨g, 0, none⟩)] w fun e w' => ∃ v3_ : Value, e = .returned (.agg #[.int .i64 r1, .int .i64 r2, .int .i64 r3, v3_]) ∧ Kd.Q (Kd.int .i64) 3 w' w.heap.size (fun _ => True) v3_ r4 ∧ IsS90 w0 w' g s0_0 r5 ∧ Below w0.heap.size w0 w' ∧ KeepBut w w' g none := by
 have hu28 := Try.underlying28
 have HI0 := mk hI
 have HK := mk (KeepBut.refl w g none)
 have HL := mk hB.size
 clear hI
 have HW0 := mk hB.size
 have HB := mk hB
 clear hB
 have H : ((spec_anyPlanes.f k s0_0 s0_1).bind fun btz2 => ((spec_randomImage.f k s0_0 btz2.2 btz2.1).bind fun btz1 => ((spec_spoilImage.f k s0_0 btz1.2.2.2.2 btz1.1 btz1.2.1 btz1.2.2.1 btz1.2.2.2.1).bind fun btz0 => (some (btz0.1, btz0.2.1, btz0.2.2.1, btz0.2.2.2.1, btz0.2.2.2.2))))) = some (r1, r2, r3, r4, r5) := h
 clear h
 replace H := Option.bind_eq_some_iff.mp H
 obtain ⟨⟨tz4, tz9⟩, A20, H⟩ := H
 replace H : ((spec_randomImage.f k s0_0 tz9 tz4).bind fun btz1 => ((spec_spoilImage.f k s0_0 btz1.2.2.2.2 btz1.1 btz1.2.1 btz1.2.2.1 btz1.2.2.2.1).bind fun btz0 => (some (btz0.1, btz0.2.1, btz0.2.2.1, btz0.2.2.2.1, btz0.2.2.2.2)))) = some (r1, r2, r3, r4, r5) := H
 have A2 := mk A20
 clear A20
 replace H := Option.bind_eq_some_iff.mp H
 obtain ⟨⟨tz5, tz6, tz7, tz1, tz10⟩, A30, H⟩ := H
 replace H : ((spec_spoilImage.f k s0_0 tz10 tz5 tz6 tz7 tz1).bind fun btz0 => (some (btz0.1, btz0.2.1, btz0.2.2.1, btz0.2.2.2.1, btz0.2.2.2.2))) = some (r1, r2, r3, r4, r5) := H
 have A3 := mk A30
 clear A30
 replace H := Option.bind_eq_some_iff.mp H
 obtain ⟨⟨tz0, tz2, tz3, tz8, tz11⟩, A40, H⟩ := H
 replace H : (some (tz0, tz2, tz3, tz8, tz11)) = some (r1, r2, r3, r4, r5) := H
 have A4 := mk A40
 clear A40
 simp only [Option.some.injEq, Prod.mk.injEq] at H
 obtain ⟨rfl, rfl, rfl, rfl, rfl⟩ := H
 go_enter Try.func50, Try.ntmps50
 go_wp2_with (first | ((with_reducible refine gate_dst (N := 2) rfl ?_); refine box_event ?hg (N := 2) ?hd (cs := #[.int .i64 0, .int .i64 0, .int .i64 0, .slice none 0 0]) (t := 28) ?hr ?_; (case hd => rfl); (case hg => rfl); (case hr => first | (go_simp; done) | (go_simp; rfl)); intro gbz0 hg w5 hbox hb; replace HB := mk (below_step (by repeat (first | (with_reducible first | exact HB.out | apply below_alloc | apply pw_below_drewN | apply below_drew1 | refine below_set ?_ (IsS90.ge HI0.out)) | exact HB.out)) hb); have BKz0 := mk (hbox); have GWz0 := mk ((by rw [hg]; exact (keep_size (w := w) (g := g) (row := none) (by repeat (first | (with_reducible first | exact HK.out | apply KeepBut.set_ | apply keep_drewN | apply keep_drew | apply keep_alloc) | exact HK.out))) : w.heap.size ≤ gbz0)); have GEz0 := mk ((Nat.le_trans HW0.out (by rw [hg]; exact (keep_size (w := w) (g := g) (row := none) (by repeat (first | (with_reducible first | exact HK.out | apply KeepBut.set_ | apply keep_drewN | apply keep_drew | apply keep_alloc) | exact HK.out))) : w.heap.size ≤ gbz0) : w0.heap.size ≤ gbz0)); replace HK := mk (KeepBut.trans (by repeat (first | (with_reducible first | exact HK.out | apply KeepBut.set_ | apply keep_drewN | apply keep_drew | apply keep_alloc) | exact HK.out)) (KeepBut.of_below hb g none) (.inl rfl)); have NBz0 := mk ((by rw [hg]; exact Nat.ne_of_lt (IsS90.lt (show IsS90 w0 _ g s0_0 s0_1 from by repeat (first | (with_reducible first | exact HI0.out | apply IsS90.alloc | apply IsS90.drewN | apply IsS90.drew | apply IsS90.set_1) | exact HI0.out))) : g ≠ gbz0)); have NBz1 := mk ((by rw [hg]; exact Nat.ne_of_gt (IsS90.lt (show IsS90 w0 _ g s0_0 s0_1 from by repeat (first | (with_reducible first | exact HI0.out | apply IsS90.alloc | apply IsS90.drewN | apply IsS90.drew | apply IsS90.set_1) | exact HI0.out))) : gbz0 ≠ g)); replace HI0 := mk (IsS90.below (by repeat (first | (with_reducible first | exact HI0.out | apply IsS90.alloc | apply IsS90.drewN | apply IsS90.drew | apply IsS90.set_1) | exact HI0.out)) hb); clear hb hbox hg) | ((with_reducible refine gate_callee (f := 84) rfl ?_); refine goesL_ (some 6) rfl rfl Try.func84 (by kernel_rfl) rfl #[.pointer (some ⟨g, 0, none⟩)] rfl (by (try simp only [List.map_toArray, List.map_cons, List.map_nil]); first | done | rfl | (simp only [List.length_drop, List.length_take]; rfl)) ?_; (with_reducible refine (spec_anyPlanes.calls k g s0_0 s0_1 tz4 tz9 w0 _ ?side1 ?side2 A2.out).mono ?_); (case side1 => repeat (first | (with_reducible first | exact HI0.out | apply IsS90.alloc | apply IsS90.drewN | apply IsS90.drew | apply IsS90.set_1 | refine IsS90.far ?_ NBz0.out _) | exact HI0.out)); (case side2 => repeat (first | (with_reducible first | exact HB.out | apply below_alloc | apply pw_below_drewN | apply below_drew1 | refine below_set ?_ (IsS90.ge HI0.out) | refine below_set ?_ GEz0.out) | exact HB.out)); rintro e w6 ⟨rfl, hi, hb, hk⟩; refine ⟨_, rfl, ?_⟩; replace BKz0 := mk (KeepBut.blk hk (g' := gbz0) (o := .cells #[.int .i64 0, .int .i64 0, .int .i64 0, .slice none 0 0] 28 (0, 0)) (by exact BKz0.out) NBz1.out (by simp)); replace HK := mk (KeepBut.trans (by repeat (first | (with_reducible first | exact HK.out | apply KeepBut.set_ | apply keep_drewN | apply keep_drew | apply keep_alloc | refine keep_far ?_ GWz0.out _) | exact HK.out)) hk (.inl rfl)); replace HB := mk (hb); replace HI0 := mk (hi); (try clear hb); (try clear hb2); (try clear hk); (try clear hi)) | ((with_reducible refine gate_callee (f := 83) rfl ?_); refine goesL_ (some 7) rfl rfl Try.func83 (by kernel_rfl) rfl #[.pointer (some ⟨g, 0, none⟩), .int .i64 tz4] rfl (by (try simp only [List.map_toArray, List.map_cons, List.map_nil]); first | done | rfl | (simp only [List.length_drop, List.length_take]; rfl)) ?_; (with_reducible refine (spec_randomImage.calls k g s0_0 tz9 tz4 tz5 tz6 tz7 tz1 tz10 w0 _ ?side1 ?side2 A3.out).mono ?_); (case side1 => repeat (first | (with_reducible first | exact HI0.out | apply IsS90.alloc | apply IsS90.drewN | apply IsS90.drew | apply IsS90.set_1 | refine IsS90.far ?_ NBz0.out _) | exact HI0.out)); (case side2 => repeat (first | (with_reducible first | exact HB.out | apply below_alloc | apply pw_below_drewN | apply below_drew1 | refine below_set ?_ (IsS90.ge HI0.out) | refine below_set ?_ GEz0.out) | exact HB.out)); rintro e w7 ⟨vz0, rfl, ho0, hi, hb, hk⟩; refine ⟨_, rfl, ?_⟩; replace BKz0 := mk (KeepBut.blk hk (g' := gbz0) (o := .cells #[.int .i64 0, .int .i64 0, .int .i64 0, .slice none 0 0] 28 (0, 0)) (by exact BKz0.out) NBz1.out (by simp)); have HOz0 := mk (Kd.R_lower ho0 (keep_size (w := w) (g := g) (row := none) (by repeat (first | (with_reducible first | exact HK.out | apply KeepBut.set_ | apply keep_drewN | apply keep_drew | apply keep_alloc | refine keep_far ?_ GWz0.out _) | exact HK.out)))); replace HK := mk (KeepBut.trans (by repeat (first | (with_reducible first | exact HK.out | apply KeepBut.set_ | apply keep_drewN | apply keep_drew | apply keep_alloc | refine keep_far ?_ GWz0.out _) | exact HK.out)) hk (.inl rfl)); replace HB := mk (hb); replace HI0 := mk (hi); (try clear hb); (try clear hb2); (try clear hk); (try clear hi); (try clear ho0); obtain ⟨Ao8, co8, eo8⟩ := Kd.R_slice HOz0.out; subst eo8) | ((with_reducible refine gate_callee (f := 82) rfl ?_); refine goesL_ (some 8) rfl rfl Try.func82 (by kernel_rfl) rfl #[.pointer (some ⟨g, 0, none⟩), .agg #[.int .i64 tz5, .int .i64 tz6, .int .i64 tz7, .slice Ao8 tz1.length co8]] rfl (by (try simp only [List.map_toArray, List.map_cons, List.map_nil]); first | done | rfl | (simp only [List.length_drop, List.length_take]; rfl)) ?_; (with_reducible refine (spec_spoilImage.calls k g s0_0 tz10 tz5 tz6 tz7 (fun k_ => some k_ = (.slice Ao8 tz1.length co8 : Value).ownBlock) (.slice Ao8 tz1.length co8) tz1 tz0 tz2 tz3 tz8 tz11 w0 _ ?side1 ?side2 ?side3 A4.out).mono ?_); (case side1 => repeat (first | (with_reducible first | exact HI0.out | apply IsS90.alloc | apply IsS90.drewN | apply IsS90.drew | apply IsS90.set_1 | refine IsS90.far ?_ NBz0.out _) | exact HI0.out)); (case side2 => repeat (first | (with_reducible first | exact HB.out | apply below_alloc | apply pw_below_drewN | apply below_drew1 | refine below_set ?_ (IsS90.ge HI0.out) | refine below_set ?_ GEz0.out) | exact HB.out)); (case side3 => exact Kd.R_lower (Kd.R_tight rfl HOz0.out) HL.out); rintro e w9 ⟨vz1, rfl, ho0, hi, hb, hkp⟩; refine ⟨_, rfl, ?_⟩; have n0_ := mk (hi); have n1_ := mk (blk_kept (by exact BKz0.out) hkp (fun hs_ => Or.elim hs_ (fun hs_ => (fun e_ => (Kd.R_ne HOz0.out BKz0.out (by decide)) e_) hs_) (fun e_ => NBz1.out e_))); have n2_ := mk (Kd.Q_mono (ok' := fun k_ => True) (qraise (d := (Kd.int .i64)) (b := w0.heap.size) (b' := w.heap.size) (fun _ _ _ _ h_ => h_) ho0 (fun k_ e_ => Or.elim (ho0.1 k_ e_) (fun hs_ => (fun e_ => Kd.R_base HOz0.out k_ e_.symm) hs_) (fun hn_ => Nat.le_trans (keep_size (w := w) (g := g) (row := none) (by repeat (first | (with_reducible first | exact HK.out | apply KeepBut.set_ | apply keep_drewN | apply keep_drew | apply keep_alloc | refine keep_far ?_ GWz0.out _) | exact HK.out))) hn_))) (fun k_ hk_ => trivial)); have n3_ := mk (Kept.keepG (by repeat (first | (with_reducible first | exact HK.out | apply KeepBut.set_ | apply keep_drewN | apply keep_drew | apply keep_alloc | refine keep_far ?_ GWz0.out _) | exact HK.out)) hkp (fun k_ hs_ => Or.elim hs_ (fun hs_ => (fun e_ => .inr (Kd.R_base HOz0.out k_ e_.symm)) hs_) (fun e_ => .inl e_))); have n4_ := mk (hb); clear HI0; clear BKz0; clear HK; clear HB; clear HOz0; have HI0 := n0_; have BKz0 := n1_; have HOz1 := n2_; have HK := n3_; have HB := n4_; (try clear hb); (try clear hkp); (try clear ho0); obtain ⟨hcz11_0, hcz11_1, hcz11_2, hcz11_3, hfz11_0, hfz11_1, hfz11_2, hfz11_3⟩ := c4 BKz0.out; obtain ⟨Ao12, co12, eo12, _⟩ := Kd.Q_slice HOz1.out; subst eo12))
 refine bodyPost_ret (results_cell_row rfl _ _ gbz0 28 #[.int .i64 tz0, .int .i64 tz2, .int .i64 tz3, .slice Ao12 tz8.length co12] (0, 0) _ rfl (by refine blk_put (cs := #[.int .i64 tz0, .int .i64 tz2, .int .i64 tz3, .slice none 0 0]) ?_ 3 _ rfl; refine blk_put (cs := #[.int .i64 tz0, .int .i64 tz2, .int .i64 0, .slice none 0 0]) ?_ 2 _ rfl; refine blk_put (cs := #[.int .i64 tz0, .int .i64 0, .int .i64 0, .slice none 0 0]) ?_ 1 _ rfl; refine blk_put (cs := #[.int .i64 0, .int .i64 0, .int .i64 0, .slice none 0 0]) ?_ 0 _ rfl; exact BKz0.out) Try.underlying28 rfl (by kernel_rfl)) rfl ?_
 exact ⟨_, by first | rfl | (simp [errW_none, errW_some] <;> rfl) | (simp [*, errW_none, errW_some] <;> rfl), by exact Kd.Q_mono (Kd.Q_far (p := ⟨gbz0, 3, none⟩) (Kd.Q_far (p := ⟨gbz0, 2, none⟩) (Kd.Q_far (p := ⟨gbz0, 1, none⟩) (Kd.Q_far (p := ⟨gbz0, 0, none⟩) (Kd.Q_types HOz1.out BKz0.out (by decide)) (fun _ hk => hk.2) (.int .i64 tz0)) (fun _ hk => hk.2) (.int .i64 tz2)) (fun _ hk => hk.2) (.int .i64 tz3)) (fun _ hk => hk.2) (.slice Ao12 tz8.length co12)) (fun _ hk => trivial), by repeat (first | (with_reducible first | exact HI0.out | apply IsS90.alloc | apply IsS90.drewN | apply IsS90.drew | apply IsS90.set_1 | refine IsS90.far ?_ NBz0.out _) | exact HI0.out), by repeat (first | (with_reducible first | exact HB.out | apply below_alloc | apply pw_below_drewN | apply below_drew1 | refine below_set ?_ (IsS90.ge HI0.out) | refine below_set ?_ GEz0.out) | exact HB.out), by repeat (first | (with_reducible first | exact HK.out | apply KeepBut.set_ | apply keep_drewN | apply keep_drew | apply keep_alloc | refine keep_far ?_ GWz0.out _) | exact HK.out)⟩


def spec_anyBox.f (k : Nat) (s0_0 : List Int) (s0_1 : Int) : Option (Int × Int × Int × Int × Int) := (spec_reader_one.f k s0_0 s0_1 (([0, 1, 2, (-1), 0, 4] : List Int))).bind fun btz3 => ((spec_reader_one.f k s0_0 btz3.2 (([0, 1, 0, 2, (-1)] : List Int))).bind fun btz2 => ((spec_reader_one.f k s0_0 btz2.2 ([1, 2, 3, 1, 0, 16] : List Int)).bind fun btz1 => ((spec_reader_one.f k s0_0 btz1.2 ([1, 2, 1, 3, 0] : List Int)).bind fun btz0 => (some (btz3.1, btz2.1, btz1.1, btz0.1, btz0.2)))))
theorem spec_anyBox.calls (k : Nat) (g : Nat) (s0_0 : List Int) (s0_1 : Int) (r1 : Int) (r2 : Int) (r3 : Int) (r4 : Int) (r5 : Int) (w0 w : World) (hI : IsS90 w0 w g s0_0 s0_1) (hB : Below w0.heap.size w0 w) (h : spec_anyBox.f k s0_0 s0_1 = some (r1, r2, r3, r4, r5)) :
  Calls Try.prog 86 #[.pointer (some ⟨g, 0, none⟩)] w fun e w' => e = .returned (.agg #[.int .i64 r1, .int .i64 r2, .int .i64 r3, .int .i64 r4]) ∧ IsS90 w0 w' g s0_0 r5 ∧ Below w0.heap.size w0 w' ∧ KeepBut w w' g none := by
 have HI0 := mk hI
 have HK := mk (KeepBut.refl w g none)
 clear hI
 have HW0 := mk hB.size
 have HB := mk hB
 clear hB
 have H : ((spec_reader_one.f k s0_0 s0_1 (([0, 1, 2, (-1), 0, 4] : List Int))).bind fun btz3 => ((spec_reader_one.f k s0_0 btz3.2 (([0, 1, 0, 2, (-1)] : List Int))).bind fun btz2 => ((spec_reader_one.f k s0_0 btz2.2 ([1, 2, 3, 1, 0, 16] : List Int)).bind fun btz1 => ((spec_reader_one.f k s0_0 btz1.2 ([1, 2, 1, 3, 0] : List Int)).bind fun btz0 => (some (btz3.1, btz2.1, btz1.1, btz0.1, btz0.2)))))) = some (r1, r2, r3, r4, r5) := h
 clear h
 obtain ⟨yz0, hyz0⟩ : ∃ y_ : List Int, y_ = (([0, 1, 2, (-1), 0, 4] : List Int)) := ⟨_, rfl⟩
 replace H : ((spec_reader_one.f k s0_0 s0_1 yz0).bind fun btz3 => ((spec_reader_one.f k s0_0 btz3.2 (([0, 1, 0, 2, (-1)] : List Int))).bind fun btz2 => ((spec_reader_one.f k s0_0 btz2.2 ([1, 2, 3, 1, 0, 16] : List Int)).bind fun btz1 => ((spec_reader_one.f k s0_0 btz1.2 ([1, 2, 1, 3, 0] : List Int)).bind fun btz0 => (some (btz3.1, btz2.1, btz1.1, btz0.1, btz0.2)))))) = some (r1, r2, r3, r4, r5) := by (rw [hyz0]; with_reducible exact H)
 have Nyz0 := mk hyz0
 clear hyz0
 replace H := Option.bind_eq_some_iff.mp H
 obtain ⟨⟨tz0, tz3⟩, A20, H⟩ := H
 replace H : ((spec_reader_one.f k s0_0 tz3 (([0, 1, 0, 2, (-1)] : List Int))).bind fun btz2 => ((spec_reader_one.f k s0_0 btz2.2 ([1, 2, 3, 1, 0, 16] : List Int)).bind fun btz1 => ((spec_reader_one.f k s0_0 btz1.2 ([1, 2, 1, 3, 0] : List Int)).bind fun btz0 => (some (tz0, btz2.1, btz1.1, btz0.1, btz0.2))))) = some (r1, r2, r3, r4, r5) := H
 have A2 := mk A20
 clear A20
 obtain ⟨yz1, hyz1⟩ : ∃ y_ : List Int, y_ = (([0, 1, 0, 2, (-1)] : List Int)) := ⟨_, rfl⟩
 replace H : ((spec_reader_one.f k s0_0 tz3 yz1).bind fun btz2 => ((spec_reader_one.f k s0_0 btz2.2 ([1, 2, 3, 1, 0, 16] : List Int)).bind fun btz1 => ((spec_reader_one.f k s0_0 btz1.2 ([1, 2, 1, 3, 0] : List Int)).bind fun btz0 => (some (tz0, btz2.1, btz1.1, btz0.1, btz0.2))))) = some (r1, r2, r3, r4, r5) := by (rw [hyz1]; with_reducible exact H)
 have Nyz1 := mk hyz1
 clear hyz1
 replace H := Option.bind_eq_some_iff.mp H
 obtain ⟨⟨tz1, tz2⟩, A30, H⟩ := H
 replace H : ((spec_reader_one.f k s0_0 tz2 ([1, 2, 3, 1, 0, 16] : List Int)).bind fun btz1 => ((spec_reader_one.f k s0_0 btz1.2 ([1, 2, 1, 3, 0] : List Int)).bind fun btz0 => (some (tz0, tz1, btz1.1, btz0.1, btz0.2)))) = some (r1, r2, r3, r4, r5) := H
 have A3 := mk A30
 clear A30
 obtain ⟨yz2, hyz2⟩ : ∃ y_ : List Int, y_ = ([1, 2, 3, 1, 0, 16] : List Int) := ⟨_, rfl⟩
 replace H : ((spec_reader_one.f k s0_0 tz2 yz2).bind fun btz1 => ((spec_reader_one.f k s0_0 btz1.2 ([1, 2, 1, 3, 0] : List Int)).bind fun btz0 => (some (tz0, tz1, btz1.1, btz0.1, btz0.2)))) = some (r1, r2, r3, r4, r5) := by (rw [hyz2]; with_reducible exact H)
 have Nyz2 := mk hyz2
 clear hyz2
 replace H := Option.bind_eq_some_iff.mp H
 obtain ⟨⟨tz4, tz5⟩, A40, H⟩ := H
 replace H : ((spec_reader_one.f k s0_0 tz5 ([1, 2, 1, 3, 0] : List Int)).bind fun btz0 => (some (tz0, tz1, tz4, btz0.1, btz0.2))) = some (r1, r2, r3, r4, r5) := H
 have A4 := mk A40
 clear A40
 obtain ⟨yz3, hyz3⟩ : ∃ y_ : List Int, y_ = ([1, 2, 1, 3, 0] : List Int) := ⟨_, rfl⟩
 replace H : ((spec_reader_one.f k s0_0 tz5 yz3).bind fun btz0 => (some (tz0, tz1, tz4, btz0.1, btz0.2))) = some (r1, r2, r3, r4, r5) := by (rw [hyz3]; with_reducible exact H)
 have Nyz3 := mk hyz3
 clear hyz3
 replace H := Option.bind_eq_some_iff.mp H
 obtain ⟨⟨tz6, tz7⟩, A50, H⟩ := H
 replace H : (some (tz0, tz1, tz4, tz6, tz7)) = some (r1, r2, r3, r4, r5) := H
 have A5 := mk A50
 clear A50
 simp only [Option.some.injEq, Prod.mk.injEq] at H
 obtain ⟨rfl, rfl, rfl, rfl, rfl⟩ := H
 go_enter Try.func86, Try.ntmps86
 go_wp2_with (first | ((with_reducible refine gate_dst (N := 2) rfl ?_); refine box_event (by rfl) (N := 2) (by rfl) (cs := #[.int .i64 0, .int .i64 0, .int .i64 0, .int .i64 0]) (t := 41) (by go_simp; done) ?_; intro gbz0 hg w6 hbox hb; replace HB := mk (below_step HB.out hb); have BKz0 := mk (hbox); have GWz0 := mk ((by rw [hg]; exact (keep_size (w := w) (g := g) (row := none) HK.out) : w.heap.size ≤ gbz0)); have GEz0 := mk ((Nat.le_trans HW0.out (by rw [hg]; exact (keep_size (w := w) (g := g) (row := none) HK.out) : w.heap.size ≤ gbz0) : w0.heap.size ≤ gbz0)); replace HK := mk (KeepBut.trans HK.out (KeepBut.of_below hb g none) (.inl rfl)); have NBz1 := mk ((by rw [hg]; exact Nat.ne_of_lt (IsS90.lt (show IsS90 w0 _ g s0_0 s0_1 from by exact HI0.out)) : g ≠ gbz0)); have NBz0 := mk ((by rw [hg]; exact Nat.ne_of_gt (IsS90.lt (show IsS90 w0 _ g s0_0 s0_1 from by exact HI0.out)) : gbz0 ≠ g)); replace HI0 := mk (IsS90.below HI0.out hb); clear hb hbox hg) | ((with_reducible refine gate_dst (N := 4) rfl ?_); refine Kd.R_lit (Kd.int .i64) _ 3 ?hg (N := 4) ?hd (xs := ([0, 1, 2, (-1), 0, 4] : List Int)) (inner := [.int .i64 0, .int .i64 1, .int .i64 2, .int .i64 (-1), .int .i64 0, .int .i64 4]) (ok := fun _ => True) (okp := fun _ => True) ?hr ?hp (fun _ hk => hk) trivial (Below.refl _ _) (Nat.le_refl _) (by simp) ?_; (case hd => rfl); (case hg => rfl); (case hr => (go_simp; done)); (case hp => exact (Reps.one (show Kd.M (Kd.int .i64) _ _ _ 0 [.int .i64 0] from rfl) (Reps.one (show Kd.M (Kd.int .i64) _ _ _ 1 [.int .i64 1] from rfl) (Reps.one (show Kd.M (Kd.int .i64) _ _ _ 2 [.int .i64 2] from rfl) (Reps.one (show Kd.M (Kd.int .i64) _ _ _ (-1) [.int .i64 (-1)] from rfl) (Reps.one (show Kd.M (Kd.int .i64) _ _ _ 0 [.int .i64 0] from rfl) (Reps.one (show Kd.M (Kd.int .i64) _ _ _ 4 [.int .i64 4] from rfl) (Reps.none _ _)))))))); intro vz0 w7 ho8 hb hg_ hnew_; clear hg_ hnew_; (rw [← Nyz0.out] at ho8); have HOz0 := mk (Kd.R_lower ho8 (keep_size (w := w) (g := g) (row := none) HK.out)); replace HI0 := mk (IsS90.below HI0.out hb); replace BKz0 := mk (blk_below BKz0.out hb); replace HK := mk (KeepBut.trans HK.out (KeepBut.of_below hb g none) (.inl rfl)); replace HB := mk (below_step HB.out hb); clear hb ho8; obtain ⟨Ao9, co9, eo9⟩ := Kd.R_slice HOz0.out; subst eo9) | ((with_reducible refine gate_callee (f := 85) rfl ?_); refine goesL_ (some 5) rfl rfl Try.func85 (by kernel_rfl) rfl #[.pointer (some ⟨g, 0, none⟩), .slice Ao9 yz0.length co9] rfl (by (try simp only [List.map_toArray, List.map_cons, List.map_nil]); rfl) ?_; (with_reducible refine (spec_reader_one.calls k g s0_0 s0_1 _ _ yz0 tz0 tz3 w0 _ ?side1 ?side2 ?side3 ?side4 ?side5 A2.out).mono ?_); (case side1 => repeat (with_reducible exact HI0.out)); (case side2 => repeat (with_reducible exact HB.out)); (case side3 => repeat (exact (Kd.R_reads' HOz0.out).2.2)); (case side4 => exact (Kd.R_reads' HOz0.out).2.1); (case side5 => exact far_slice (IsS90.own_ne HI0.out HOz0.out (by decide))); rintro e w10 ⟨rfl, hi, hb, hk⟩; refine ⟨_, rfl, ?_⟩; replace BKz0 := mk (KeepBut.blk hk (g' := gbz0) (o := .cells #[.int .i64 0, .int .i64 0, .int .i64 0, .int .i64 0] 41 (0, 0)) BKz0.out NBz0.out (by simp)); replace HOz0 := mk (Kd.R_mono (Kd.R_keep (IsS90.apart (show IsS90 w0 _ g s0_0 s0_1 from by exact HI0.out) HOz0.out (by decide)) hk (fun _ h => h.2)) (fun _ h => h.1)); replace HK := mk (KeepBut.trans HK.out hk (.inl rfl)); replace HB := mk (hb); replace HI0 := mk (hi); (try clear hb); (try clear hk); (try clear hi)) | ((with_reducible refine gate_dst (N := 7) rfl ?_); refine Kd.R_lit (Kd.int .i64) _ 3 ?hg (N := 7) ?hd (xs := ([0, 1, 0, 2, (-1)] : List Int)) (inner := [.int .i64 0, .int .i64 1, .int .i64 0, .int .i64 2, .int .i64 (-1)]) (ok := fun _ => True) (okp := fun _ => True) ?hr ?hp (fun _ hk => hk) trivial (Below.refl _ _) (Nat.le_refl _) (by simp) ?_; (case hd => rfl); (case hg => rfl); (case hr => (go_simp; done)); (case hp => exact (Reps.one (show Kd.M (Kd.int .i64) _ _ _ 0 [.int .i64 0] from rfl) (Reps.one (show Kd.M (Kd.int .i64) _ _ _ 1 [.int .i64 1] from rfl) (Reps.one (show Kd.M (Kd.int .i64) _ _ _ 0 [.int .i64 0] from rfl) (Reps.one (show Kd.M (Kd.int .i64) _ _ _ 2 [.int .i64 2] from rfl) (Reps.one (show Kd.M (Kd.int .i64) _ _ _ (-1) [.int .i64 (-1)] from rfl) (Reps.none _ _))))))); intro vz1 w11 ho12 hb hg_ hnew_; clear hg_ hnew_; (rw [← Nyz1.out] at ho12); have HOz1 := mk (Kd.R_lower (Kd.R_new' ho12 (Kd.R_lt HOz0.out)) (keep_size (w := w) (g := g) (row := none) HK.out)); replace HOz0 := mk (Kd.R_elder' HOz0.out (Kd.R_base ho12) hb); replace HI0 := mk (IsS90.below HI0.out hb); replace BKz0 := mk (blk_below BKz0.out hb); replace HK := mk (KeepBut.trans HK.out (KeepBut.of_below hb g none) (.inl rfl)); replace HB := mk (below_step HB.out hb); clear hb ho12; obtain ⟨Ao13, co13, eo13⟩ := Kd.R_slice HOz1.out; subst eo13) | ((with_reducible refine gate_callee (f := 85) rfl ?_); refine goesL_ (some 8) rfl rfl Try.func85 (by kernel_rfl) rfl #[.pointer (some ⟨g, 0, none⟩), .slice Ao13 yz1.length co13] rfl (by (try simp only [List.map_toArray, List.map_cons, List.map_nil]); rfl) ?_; (with_reducible refine (spec_reader_one.calls k g s0_0 tz3 _ _ yz1 tz1 tz2 w0 _ ?side1 ?side2 ?side3 ?side4 ?side5 A3.out).mono ?_); (case side1 => repeat (with_reducible exact HI0.out)); (case side2 => repeat (with_reducible exact HB.out)); (case side3 => repeat (exact (Kd.R_reads' HOz1.out).2.2)); (case side4 => exact (Kd.R_reads' HOz1.out).2.1); (case side5 => exact far_slice (IsS90.own_ne HI0.out HOz1.out (by decide))); rintro e w14 ⟨rfl, hi, hb, hk⟩; refine ⟨_, rfl, ?_⟩; replace BKz0 := mk (KeepBut.blk hk (g' := gbz0) (o := .cells #[.int .i64 0, .int .i64 0, .int .i64 0, .int .i64 0] 41 (0, 0)) BKz0.out NBz0.out (by simp)); replace HOz0 := mk (Kd.R_mono (Kd.R_keep (IsS90.apart (show IsS90 w0 _ g s0_0 tz3 from by exact HI0.out) HOz0.out (by decide)) hk (fun _ h => h.2)) (fun _ h => h.1)); replace HOz1 := mk (Kd.R_mono (Kd.R_keep (IsS90.apart (show IsS90 w0 _ g s0_0 tz3 from by exact HI0.out) HOz1.out (by decide)) hk (fun _ h => h.2)) (fun _ h => h.1)); replace HK := mk (KeepBut.trans HK.out hk (.inl rfl)); replace HB := mk (hb); replace HI0 := mk (hi); (try clear hb); (try clear hk); (try clear hi)) | ((with_reducible refine gate_dst (N := 10) rfl ?_); refine Kd.R_lit (Kd.int .i64) _ 3 ?hg (N := 10) ?hd (xs := ([1, 2, 3, 1, 0, 16] : List Int)) (inner := [.int .i64 1, .int .i64 2, .int .i64 3, .int .i64 1, .int .i64 0, .int .i64 16]) (ok := fun _ => True) (okp := fun _ => True) ?hr ?hp (fun _ hk => hk) trivial (Below.refl _ _) (Nat.le_refl _) (by simp) ?_; (case hd => rfl); (case hg => rfl); (case hr => (go_simp; done)); (case hp => exact (Reps.one (show Kd.M (Kd.int .i64) _ _ _ 1 [.int .i64 1] from rfl) (Reps.one (show Kd.M (Kd.int .i64) _ _ _ 2 [.int .i64 2] from rfl) (Reps.one (show Kd.M (Kd.int .i64) _ _ _ 3 [.int .i64 3] from rfl) (Reps.one (show Kd.M (Kd.int .i64) _ _ _ 1 [.int .i64 1] from rfl) (Reps.one (show Kd.M (Kd.int .i64) _ _ _ 0 [.int .i64 0] from rfl) (Reps.one (show Kd.M (Kd.int .i64) _ _ _ 16 [.int .i64 16] from rfl) (Reps.none _ _)))))))); intro vz2 w15 ho16 hb hg_ hnew_; clear hg_ hnew_; (rw [← Nyz2.out] at ho16); have HOz2 := mk (Kd.R_lower (Kd.R_new' (Kd.R_new' ho16 (Kd.R_lt HOz0.out)) (Kd.R_lt HOz1.out)) (keep_size (w := w) (g := g) (row := none) HK.out)); replace HOz0 := mk (Kd.R_elder' HOz0.out (Kd.R_base ho16) hb); replace HOz1 := mk (Kd.R_elder' HOz1.out (Kd.R_base ho16) hb); replace HI0 := mk (IsS90.below HI0.out hb); replace BKz0 := mk (blk_below BKz0.out hb); replace HK := mk (KeepBut.trans HK.out (KeepBut.of_below hb g none) (.inl rfl)); replace HB := mk (below_step HB.out hb); clear hb ho16; obtain ⟨Ao17, co17, eo17⟩ := Kd.R_slice HOz2.out; subst eo17) | ((with_reducible refine gate_callee (f := 85) rfl ?_); refine goesL_ (some 11) rfl rfl Try.func85 (by kernel_rfl) rfl #[.pointer (some ⟨g, 0, none⟩), .slice Ao17 yz2.length co17] rfl (by (try simp only [List.map_toArray, List.map_cons, List.map_nil]); rfl) ?_; (with_reducible refine (spec_reader_one.calls k g s0_0 tz2 _ _ yz2 tz4 tz5 w0 _ ?side1 ?side2 ?side3 ?side4 ?side5 A4.out).mono ?_); (case side1 => repeat (with_reducible exact HI0.out)); (case side2 => repeat (with_reducible exact HB.out)); (case side3 => repeat (exact (Kd.R_reads' HOz2.out).2.2)); (case side4 => exact (Kd.R_reads' HOz2.out).2.1); (case side5 => exact far_slice (IsS90.own_ne HI0.out HOz2.out (by decide))); rintro e w18 ⟨rfl, hi, hb, hk⟩; refine ⟨_, rfl, ?_⟩; replace BKz0 := mk (KeepBut.blk hk (g' := gbz0) (o := .cells #[.int .i64 0, .int .i64 0, .int .i64 0, .int .i64 0] 41 (0, 0)) BKz0.out NBz0.out (by simp)); replace HOz0 := mk (Kd.R_mono (Kd.R_keep (IsS90.apart (show IsS90 w0 _ g s0_0 tz2 from by exact HI0.out) HOz0.out (by decide)) hk (fun _ h => h.2)) (fun _ h => h.1)); replace HOz1 := mk (Kd.R_mono (Kd.R_keep (IsS90.apart (show IsS90 w0 _ g s0_0 tz2 from by exact HI0.out) HOz1.out (by decide)) hk (fun _ h => h.2)) (fun _ h => h.1)); replace HOz2 := mk (Kd.R_mono (Kd.R_keep (IsS90.apart (show IsS90 w0 _ g s0_0 tz2 from by exact HI0.out) HOz2.out (by decide)) hk (fun _ h => h.2)) (fun _ h => h.1)); replace HK := mk (KeepBut.trans HK.out hk (.inl rfl)); replace HB := mk (hb); replace HI0 := mk (hi); (try clear hb); (try clear hk); (try clear hi)) | ((with_reducible refine gate_dst (N := 13) rfl ?_); refine Kd.R_lit (Kd.int .i64) _ 3 ?hg (N := 13) ?hd (xs := ([1, 2, 1, 3, 0] : List Int)) (inner := [.int .i64 1, .int .i64 2, .int .i64 1, .int .i64 3, .int .i64 0]) (ok := fun _ => True) (okp := fun _ => True) ?hr ?hp (fun _ hk => hk) trivial (Below.refl _ _) (Nat.le_refl _) (by simp) ?_; (case hd => rfl); (case hg => rfl); (case hr => (go_simp; done)); (case hp => exact (Reps.one (show Kd.M (Kd.int .i64) _ _ _ 1 [.int .i64 1] from rfl) (Reps.one (show Kd.M (Kd.int .i64) _ _ _ 2 [.int .i64 2] from rfl) (Reps.one (show Kd.M (Kd.int .i64) _ _ _ 1 [.int .i64 1] from rfl) (Reps.one (show Kd.M (Kd.int .i64) _ _ _ 3 [.int .i64 3] from rfl) (Reps.one (show Kd.M (Kd.int .i64) _ _ _ 0 [.int .i64 0] from rfl) (Reps.none _ _))))))); intro vz3 w19 ho20 hb hg_ hnew_; clear hg_ hnew_; (rw [← Nyz3.out] at ho20); have HOz3 := mk (Kd.R_lower (Kd.R_new' (Kd.R_new' (Kd.R_new' ho20 (Kd.R_lt HOz0.out)) (Kd.R_lt HOz1.out)) (Kd.R_lt HOz2.out)) (keep_size (w := w) (g := g) (row := none) HK.out)); replace HOz0 := mk (Kd.R_elder' HOz0.out (Kd.R_base ho20) hb); replace HOz1 := mk (Kd.R_elder' HOz1.out (Kd.R_base ho20) hb); replace HOz2 := mk (Kd.R_elder' HOz2.out (Kd.R_base ho20) hb); replace HI0 := mk (IsS90.below HI0.out hb); replace BKz0 := mk (blk_below BKz0.out hb); replace HK := mk (KeepBut.trans HK.out (KeepBut.of_below hb g none) (.inl rfl)); replace HB := mk (below_step HB.out hb); clear hb ho20; obtain ⟨Ao21, co21, eo21⟩ := Kd.R_slice HOz3.out; subst eo21) | ((with_reducible refine gate_callee (f := 85) rfl ?_); refine goesL_ (some 14) rfl rfl Try.func85 (by kernel_rfl) rfl #[.pointer (some ⟨g, 0, none⟩), .slice Ao21 yz3.length co21] rfl (by (try simp only [List.map_toArray, List.map_cons, List.map_nil]); rfl) ?_; (with_reducible refine (spec_reader_one.calls k g s0_0 tz5 _ _ yz3 tz6 tz7 w0 _ ?side1 ?side2 ?side3 ?side4 ?side5 A5.out).mono ?_); (case side1 => repeat (with_reducible exact HI0.out)); (case side2 => repeat (with_reducible exact HB.out)); (case side3 => repeat (exact (Kd.R_reads' HOz3.out).2.2)); (case side4 => exact (Kd.R_reads' HOz3.out).2.1); (case side5 => exact far_slice (IsS90.own_ne HI0.out HOz3.out (by decide))); rintro e w22 ⟨rfl, hi, hb, hk⟩; refine ⟨_, rfl, ?_⟩; have n0_ := mk (KeepBut.blk hk (g' := gbz0) (o := .cells #[.int .i64 0, .int .i64 0, .int .i64 0, .int .i64 0] 41 (0, 0)) BKz0.out NBz0.out (by simp)); have n5_ := mk (KeepBut.trans HK.out hk (.inl rfl)); have n6_ := mk (hb); have n7_ := mk (hi); clear BKz0; clear HOz0; clear HOz1; clear HOz2; clear HOz3; clear HK; clear HB; clear HI0; have BKz0 := n0_; have HK := n5_; have HB := n6_; have HI0 := n7_; (try clear hb); (try clear hk); (try clear hi); obtain ⟨hcz24_0, hcz24_1, hcz24_2, hcz24_3, hfz24_0, hfz24_1, hfz24_2, hfz24_3⟩ := c4 BKz0.out))
 refine bodyPost_ret (results_cell_row rfl _ _ gbz0 41 #[.int .i64 tz0, .int .i64 tz1, .int .i64 tz4, .int .i64 tz6] (0, 0) _ rfl (by refine blk_put (cs := #[.int .i64 tz0, .int .i64 tz1, .int .i64 tz4, .int .i64 0]) ?_ 3 _ rfl; refine blk_put (cs := #[.int .i64 tz0, .int .i64 tz1, .int .i64 0, .int .i64 0]) ?_ 2 _ rfl; refine blk_put (cs := #[.int .i64 tz0, .int .i64 0, .int .i64 0, .int .i64 0]) ?_ 1 _ rfl; refine blk_put (cs := #[.int .i64 0, .int .i64 0, .int .i64 0, .int .i64 0]) ?_ 0 _ rfl; exact BKz0.out) Try.underlying41 rfl (by kernel_rfl)) rfl ?_
 exact ⟨by rfl, by repeat (with_reducible first | exact HI0.out | refine IsS90.far ?_ NBz1.out _), by repeat (with_reducible first | exact HB.out | refine below_set ?_ GEz0.out), by repeat (with_reducible first | exact HK.out | refine keep_far ?_ GWz0.out _)⟩


def spec_reader_spoil.f (k : Nat) (s0_0 : List Int) (s0_1 : Int) (l1 : List Int) (a2 : Int) : Option (List Int × Int) := (spec_copyInts.f l1).bind fun tz0 => ((spec_reader_pick.f k s0_0 s0_1 20).bind fun btz0 => (if btz0.1 = 0 then (if tz0.length < 17592186044416 then (some ((tz0 ++ [a2]), btz0.2)) else none) else (if btz0.1 = 1 then (if (tz0.length : Int) > 0 then (if 1 ≤ (tz0.length : Int) then (some ((tz0.drop (1 : Int).toNat), btz0.2)) else none) else (some (tz0, btz0.2))) else (if btz0.1 = 2 then (if (tz0.length : Int) > 0 then ((spec_reader_pick.f k s0_0 btz0.2 (tz0.length : Int)).bind fun btz1 => ((spec_reader_one.f k s0_0 btz1.2 (([(-1), a2, 0, 1] : List Int))).bind fun btz2 => (if 0 ≤ btz1.1 then (if btz1.1 < (tz0.length : Int) then (some ((tz0.set (btz1.1 : Int).toNat btz2.1), btz2.2)) else none) else none))) else (some (tz0, btz0.2))) else (some (tz0, btz0.2))))))
theorem spec_reader_spoil.calls (k : Nat) (g : Nat) (s0_0 : List Int) (s0_1 : Int) (A1 : Option Addr) (c1 : Nat) (l1 : List Int) (a2 : Int) (r1 : List Int) (r2 : Int) (w0 w : World) (hI : IsS90 w0 w g s0_0 s0_1) (hB : Below w0.heap.size w0 w) (hr1 : Kd.C (Kd.int .i64) w A1 l1.length l1) (hc1 : l1.length ≤ c1) (hf1 : ∀ ad, A1 = some ad → 0 < l1.length → ad.block ≠ g) (h : spec_reader_spoil.f k s0_0 s0_1 l1 a2 = some (r1, r2)) :
  Calls Try.prog 99 #[.pointer (some ⟨g, 0, none⟩), .slice A1 l1.length c1, .int .i64 a2] w fun e w' => ∃ v0_ : Value, e = .returned v0_ ∧ Kd.Q (Kd.int .i64) 3 w' w.heap.size (fun _ => True) v0_ r1 ∧ IsS90 w0 w' g s0_0 r2 ∧ Below w0.heap.size w0 w' ∧ KeepBut w w' g none := by
 have HR1 := mk hr1
 have HC1 := mk hc1
 clear hr1 hc1
 have HI0 := mk hI
 have HK := mk (KeepBut.refl w g none)
 have HL := mk hB.size
 clear hI
 have HB := mk hB
 clear hB
 have H : ((spec_copyInts.f l1).bind fun tz0 => ((spec_reader_pick.f k s0_0 s0_1 20).bind fun btz0 => (if btz0.1 = 0 then (if tz0.length < 17592186044416 then (some ((tz0 ++ [a2]), btz0.2)) else none) else (if btz0.1 = 1 then (if (tz0.length : Int) > 0 then (if 1 ≤ (tz0.length : Int) then (some ((tz0.drop (1 : Int).toNat), btz0.2)) else none) else (some (tz0, btz0.2))) else (if btz0.1 = 2 then (if (tz0.length : Int) > 0 then ((spec_reader_pick.f k s0_0 btz0.2 (tz0.length : Int)).bind fun btz1 => ((spec_reader_one.f k s0_0 btz1.2 (([(-1), a2, 0, 1] : List Int))).bind fun btz2 => (if 0 ≤ btz1.1 then (if btz1.1 < (tz0.length : Int) then (some ((tz0.set (btz1.1 : Int).toNat btz2.1), btz2.2)) else none) else none))) else (some (tz0, btz0.2))) else (some (tz0, btz0.2))))))) = some (r1, r2) := h
 clear h
 replace H := Option.bind_eq_some_iff.mp H
 obtain ⟨tz0, A40, H⟩ := H
 replace H : ((spec_reader_pick.f k s0_0 s0_1 20).bind fun btz0 => (if btz0.1 = 0 then (if tz0.length < 17592186044416 then (some ((tz0 ++ [a2]), btz0.2)) else none) else (if btz0.1 = 1 then (if (tz0.length : Int) > 0 then (if 1 ≤ (tz0.length : Int) then (some ((tz0.drop (1 : Int).toNat), btz0.2)) else none) else (some (tz0, btz0.2))) else (if btz0.1 = 2 then (if (tz0.length : Int) > 0 then ((spec_reader_pick.f k s0_0 btz0.2 (tz0.length : Int)).bind fun btz1 => ((spec_reader_one.f k s0_0 btz1.2 (([(-1), a2, 0, 1] : List Int))).bind fun btz2 => (if 0 ≤ btz1.1 then (if btz1.1 < (tz0.length : Int) then (some ((tz0.set (btz1.1 : Int).toNat btz2.1), btz2.2)) else none) else none))) else (some (tz0, btz0.2))) else (some (tz0, btz0.2)))))) = some (r1, r2) := H
 have A4 := mk A40
 clear A40
 replace H := Option.bind_eq_some_iff.mp H
 obtain ⟨⟨tz1, tz3⟩, A50, H⟩ := H
 replace H : (if tz1 = 0 then (if tz0.length < 17592186044416 then (some ((tz0 ++ [a2]), tz3)) else none) else (if tz1 = 1 then (if (tz0.length : Int) > 0 then (if 1 ≤ (tz0.length : Int) then (some ((tz0.drop (1 : Int).toNat), tz3)) else none) else (some (tz0, tz3))) else (if tz1 = 2 then (if (tz0.length : Int) > 0 then ((spec_reader_pick.f k s0_0 tz3 (tz0.length : Int)).bind fun btz1 => ((spec_reader_one.f k s0_0 btz1.2 (([(-1), a2, 0, 1] : List Int))).bind fun btz2 => (if 0 ≤ btz1.1 then (if btz1.1 < (tz0.length : Int) then (some ((tz0.set (btz1.1 : Int).toNat btz2.1), btz2.2)) else none) else none))) else (some (tz0, tz3))) else (some (tz0, tz3))))) = some (r1, r2) := H
 have A5 := mk A50
 clear A50
 by_cases c6 : tz1 = 0
 ·rw [if_pos c6] at H
  have c6b0 : (tz1 == 0) = true := beq_iff_eq.mpr c6
  have c6b1 : (tz1 != 0) = false := bne_eq_false_iff_eq.mpr c6
  clear c6
  by_cases c7 : tz0.length < 17592186044416
  ·rw [if_pos c7] at H
   have LMc7 := mk c7
   clear c7
   obtain ⟨yz3, hyz0⟩ : ∃ y_ : List Int, y_ = (tz0 ++ [a2]) := ⟨_, rfl⟩
   replace H : (some (yz3, tz3)) = some (r1, r2) := by (rw [hyz0]; with_reducible exact H)
   have Nyz1 := mk hyz0
   clear hyz0
   simp only [Option.some.injEq, Prod.mk.injEq] at H
   obtain ⟨rfl, rfl⟩ := H
   go_enter Try.func99, Try.ntmps99
   go_wp2_with (first | ((with_reducible refine gate_callee (f := 71) rfl ?_); refine goesL_ (some 9) rfl rfl Try.func71 (by kernel_rfl) rfl #[.slice A1 l1.length c1] rfl (by (try simp only [List.map_toArray, List.map_cons, List.map_nil]); rfl) ?_; (with_reducible refine (spec_copyInts.calls _ _ l1 tz0 _ ?side1 ?side2 A4.out).mono ?_); (case side1 => exact Kd.C_keep 0 HR1.out HK.out hf1); (case side2 => exact HC1.out); rintro e w8 ⟨vz0, rfl, ho0, hb⟩; refine ⟨_, rfl, ?_⟩; have HOz0 := mk (Kd.R_lower ho0 (keep_size (w := w) (g := g) (row := none) HK.out)); replace HI0 := mk (IsS90.below HI0.out hb); replace HK := mk (KeepBut.trans HK.out (KeepBut.of_below hb g none) (.inl rfl)); replace HB := mk (below_step HB.out hb); (try clear hb); (try clear ho0)) | ((with_reducible refine gate_callee (f := 90) rfl ?_); refine goesL_ (some 11) rfl rfl Try.func90 (by kernel_rfl) rfl #[.pointer (some ⟨g, 0, none⟩), .int .i64 20] rfl (by (try simp only [List.map_toArray, List.map_cons, List.map_nil]); rfl) ?_; (with_reducible refine (spec_reader_pick.calls k g s0_0 s0_1 20 tz1 tz3 w0 _ ?side1 ?side2 A5.out).mono ?_); (case side1 => repeat (with_reducible exact HI0.out)); (case side2 => repeat (with_reducible exact HB.out)); rintro e w9 ⟨rfl, hi, hb, hk⟩; refine ⟨_, rfl, ?_⟩; replace HOz0 := mk (Kd.R_mono (Kd.R_keep (IsS90.apart (show IsS90 w0 _ g s0_0 s0_1 from by exact HI0.out) HOz0.out (by decide)) hk (fun _ h => h.2)) (fun _ h => h.1)); replace HK := mk (KeepBut.trans HK.out hk (.inl rfl)); replace HB := mk (hb); replace HI0 := mk (hi); (try clear hb); (try clear hk); (try clear hi)) | ((with_reducible refine gate_builtin (b := .append) (xs := #[.tmp 14, .tmp 16]) rfl ?_); at_builtin; refine Kd.R_append (Kd.int .i64) w.heap.size rfl (.tmp 14) (.tmp 16) 22 3 (.int .i64 0) 8 rfl Try.underlying22 info3 rfl (by decide) (by omega) vz0 tz0 a2 [.int .i64 a2] (fun _ => True) (fun _ => False) rfl rfl ?aP (fun _ hk => hk.elim) ?aF ?aO (Below.refl _ _) ?aS ?aL ?_; (case aP => exact rfl); (case aF => exact (fun _ _ => trivial)); (case aO => exact HOz0.out); (case aS => exact (keep_size (w := w) (g := g) (row := none) HK.out)); (case aL => have := LMc7.out; omega); intro vz1 w10 ho hb hg hat; rw [← Nyz1.out] at ho; have n0_ := mk (IsS90.grown HI0.out hg (IsS90.own_ne HI0.out HOz0.out (by decide))); have n1_ := mk (below_weaken HB.out HL.out hb); have n2_ := mk (KeepBut.trans HK.out (KeepBut.of_grown hg g) (Kd.R_base2 HOz0.out)); have n3_ := mk (ho); clear HI0; clear HB; clear HK; clear HOz0; have HI0 := n0_; have HB := n1_; have HK := n2_; have HOz2 := n3_; clear ho hb hg hat))
   go_ret
   exact ⟨_, by rfl, Kd.Q_of_R HOz2.out, by exact HI0.out, by exact HB.out, by exact HK.out⟩
  rw [if_neg c7] at H
  exact absurd H (by simp)
 rw [if_neg c6] at H
 have c6b0 : (tz1 == 0) = false := beq_eq_false_iff_ne.mpr c6
 have c6b1 : (tz1 != 0) = true := bne_iff_ne.mpr c6
 by_cases c11 : tz1 = 1
 ·rw [if_pos c11] at H
  have c11b0 : (tz1 == 1) = true := beq_iff_eq.mpr c11
  have c11b1 : (tz1 != 1) = false := bne_eq_false_iff_eq.mpr c11
  clear c11
  by_cases c12 : (tz0.length : Int) > 0
  ·rw [if_pos c12] at H
   have c12b0 : decide (0 < (tz0.length : Int)) = true := decide_eq_true c12
   have c12b1 : decide (0 < tz0.length) = true := decide_eq_true (by omega)
   clear c12
   by_cases c13 : 1 ≤ (tz0.length : Int)
   ·rw [if_pos c13] at H
    have c13b1 : decide (1 ≤ (tz0.length : Int)) = true := decide_eq_true c13
    clear c13
    obtain ⟨yz0, hyz1⟩ : ∃ y_ : List Int, y_ = (tz0.drop (1 : Int).toNat) := ⟨_, rfl⟩
    replace H : (some (yz0, tz3)) = some (r1, r2) := by (rw [hyz1]; with_reducible exact H)
    have Nyz0 := mk hyz1
    clear hyz1
    simp only [Option.some.injEq, Prod.mk.injEq] at H
    obtain ⟨rfl, rfl⟩ := H
    go_enter Try.func99, Try.ntmps99
    go_wp2_with (first | ((with_reducible refine gate_callee (f := 71) rfl ?_); refine goesL_ (some 9) rfl rfl Try.func71 (by kernel_rfl) rfl #[.slice A1 l1.length c1] rfl (by (try simp only [List.map_toArray, List.map_cons, List.map_nil]); rfl) ?_; (with_reducible refine (spec_copyInts.calls _ _ l1 tz0 _ ?side1 ?side2 A4.out).mono ?_); (case side1 => exact Kd.C_keep 0 HR1.out HK.out hf1); (case side2 => exact HC1.out); rintro e w14 ⟨vz0, rfl, ho0, hb⟩; refine ⟨_, rfl, ?_⟩; have HOz0 := mk (Kd.R_lower ho0 (keep_size (w := w) (g := g) (row := none) HK.out)); replace HI0 := mk (IsS90.below HI0.out hb); replace HK := mk (KeepBut.trans HK.out (KeepBut.of_below hb g none) (.inl rfl)); replace HB := mk (below_step HB.out hb); (try clear hb); (try clear ho0)) | ((with_reducible refine gate_callee (f := 90) rfl ?_); refine goesL_ (some 11) rfl rfl Try.func90 (by kernel_rfl) rfl #[.pointer (some ⟨g, 0, none⟩), .int .i64 20] rfl (by (try simp only [List.map_toArray, List.map_cons, List.map_nil]); rfl) ?_; (with_reducible refine (spec_reader_pick.calls k g s0_0 s0_1 20 tz1 tz3 w0 _ ?side1 ?side2 A5.out).mono ?_); (case side1 => repeat (with_reducible exact HI0.out)); (case side2 => repeat (with_reducible exact HB.out)); rintro e w15 ⟨rfl, hi, hb, hk⟩; refine ⟨_, rfl, ?_⟩; replace HOz0 := mk (Kd.R_mono (Kd.R_keep (IsS90.apart (show IsS90 w0 _ g s0_0 s0_1 from by exact HI0.out) HOz0.out (by decide)) hk (fun _ h => h.2)) (fun _ h => h.1)); replace HK := mk (KeepBut.trans HK.out hk (.inl rfl)); replace HB := mk (hb); replace HI0 := mk (hi); (try clear hb); (try clear hk); (try clear hi); obtain ⟨Ao16, co16, eo16⟩ := Kd.R_slice HOz0.out; subst eo16; have q17 : (1 : Int) ≤ ((tz0.length : Int) : Int) := of_decide_eq_true (by (with_reducible assumption)); obtain ⟨i017, hi017, _, hsz17, _⟩ := info_parts info3; have hcut17 := cut_from (P := Try.prog) 22 3 .i64 Try.underlying22 hi017 1 hsz17 Ao16 tz0.length co16 1 (by omega) q17; have hr17 := Kd.Q_drop (k := (1 : Int).toNat) (Kd.Q_of_R HOz0.out) (by omega); obtain ⟨A17, hA17⟩ : ∃ A1, A1 = (if co16 = (1 : Int).toNat then Ao16 else (Ao16 : Option Addr).map (·.add ((1 : Int).toNat * 1))) := ⟨_, rfl⟩; obtain ⟨c17, hc17⟩ : ∃ c1, c1 = co16 - (1 : Int).toNat := ⟨_, rfl⟩; have hy17 : yz0.length = tz0.length - (1 : Int).toNat := (by rw [Nyz0.out, List.length_drop]); rw [← Nyz0.out] at hr17; rw [← hy17, ← hA17, ← hc17] at hcut17; replace hr17 : Kd.Q (Kd.int .i64) 3 w15 w.heap.size (fun _ => True) (.slice A17 yz0.length c17) yz0 := (by rw [hA17, hc17, hy17]; exact hr17); clear hy17 hi017 hsz17 HOz0 hA17 hc17; have HOz3 := mk hr17; clear hr17; replace q17 := eq_true q17))
    go_ret
    exact ⟨_, by rfl, by exact HOz3.out, by exact HI0.out, by exact HB.out, by exact HK.out⟩
   rw [if_neg c13] at H
   exact absurd H (by simp)
  rw [if_neg c12] at H
  have c12b1 : decide (0 < tz0.length) = false := decide_eq_false (by omega)
  clear c12
  simp only [Option.some.injEq, Prod.mk.injEq] at H
  obtain ⟨rfl, rfl⟩ := H
  go_enter Try.func99, Try.ntmps99
  go_wp2_with (first | ((with_reducible refine gate_callee (f := 71) rfl ?_); refine goesL_ (some 9) rfl rfl Try.func71 (by kernel_rfl) rfl #[.slice A1 l1.length c1] rfl (by (try simp only [List.map_toArray, List.map_cons, List.map_nil]); rfl) ?_; (with_reducible refine (spec_copyInts.calls _ _ l1 tz0 _ ?side1 ?side2 A4.out).mono ?_); (case side1 => exact Kd.C_keep 0 HR1.out HK.out hf1); (case side2 => exact HC1.out); rintro e w18 ⟨vz0, rfl, ho0, hb⟩; refine ⟨_, rfl, ?_⟩; have HOz0 := mk (Kd.R_lower ho0 (keep_size (w := w) (g := g) (row := none) HK.out)); replace HI0 := mk (IsS90.below HI0.out hb); replace HK := mk (KeepBut.trans HK.out (KeepBut.of_below hb g none) (.inl rfl)); replace HB := mk (below_step HB.out hb); (try clear hb); (try clear ho0)) | ((with_reducible refine gate_callee (f := 90) rfl ?_); refine goesL_ (some 11) rfl rfl Try.func90 (by kernel_rfl) rfl #[.pointer (some ⟨g, 0, none⟩), .int .i64 20] rfl (by (try simp only [List.map_toArray, List.map_cons, List.map_nil]); rfl) ?_; (with_reducible refine (spec_reader_pick.calls k g s0_0 s0_1 20 tz1 tz3 w0 _ ?side1 ?side2 A5.out).mono ?_); (case side1 => repeat (with_reducible exact HI0.out)); (case side2 => repeat (with_reducible exact HB.out)); rintro e w19 ⟨rfl, hi, hb, hk⟩; refine ⟨_, rfl, ?_⟩; replace HOz0 := mk (Kd.R_mono (Kd.R_keep (IsS90.apart (show IsS90 w0 _ g s0_0 s0_1 from by exact HI0.out) HOz0.out (by decide)) hk (fun _ h => h.2)) (fun _ h => h.1)); replace HK := mk (KeepBut.trans HK.out hk (.inl rfl)); replace HB := mk (hb); replace HI0 := mk (hi); (try clear hb); (try clear hk); (try clear hi); obtain ⟨Ao20, co20, eo20⟩ := Kd.R_slice HOz0.out; subst eo20))
  go_ret
  exact ⟨_, by rfl, Kd.Q_of_R HOz0.out, by exact HI0.out, by exact HB.out, by exact HK.out⟩
 rw [if_neg c11] at H
 have c11b0 : (tz1 == 1) = false := beq_eq_false_iff_ne.mpr c11
 have c11b1 : (tz1 != 1) = true := bne_iff_ne.mpr c11
 by_cases c21 : tz1 = 2
 ·rw [if_pos c21] at H
  have c21b0 : (tz1 == 2) = true := beq_iff_eq.mpr c21
  have c21b1 : (tz1 != 2) = false := bne_eq_false_iff_eq.mpr c21
  clear c21
  by_cases c22 : (tz0.length : Int) > 0
  ·rw [if_pos c22] at H
   have c22b1 : decide (0 < tz0.length) = true := decide_eq_true (by omega)
   clear c22
   replace H := Option.bind_eq_some_iff.mp H
   obtain ⟨⟨tz2, tz4⟩, A230, H⟩ := H
   replace H : ((spec_reader_one.f k s0_0 tz4 (([(-1), a2, 0, 1] : List Int))).bind fun btz2 => (if 0 ≤ tz2 then (if tz2 < (tz0.length : Int) then (some ((tz0.set (tz2 : Int).toNat btz2.1), btz2.2)) else none) else none)) = some (r1, r2) := H
   have A23 := mk A230
   clear A230
   obtain ⟨yz1, hyz2⟩ : ∃ y_ : List Int, y_ = (([(-1), a2, 0, 1] : List Int)) := ⟨_, rfl⟩
   replace H : ((spec_reader_one.f k s0_0 tz4 yz1).bind fun btz2 => (if 0 ≤ tz2 then (if tz2 < (tz0.length : Int) then (some ((tz0.set (tz2 : Int).toNat btz2.1), btz2.2)) else none) else none)) = some (r1, r2) := by (rw [hyz2]; with_reducible exact H)
   have Nyz2 := mk hyz2
   clear hyz2
   replace H := Option.bind_eq_some_iff.mp H
   obtain ⟨⟨tz5, tz6⟩, A240, H⟩ := H
   replace H : (if 0 ≤ tz2 then (if tz2 < (tz0.length : Int) then (some ((tz0.set (tz2 : Int).toNat tz5), tz6)) else none) else none) = some (r1, r2) := H
   have A24 := mk A240
   clear A240
   by_cases c25 : 0 ≤ tz2
   ·rw [if_pos c25] at H
    have c25b0 : decide (0 ≤ tz2) = true := decide_eq_true c25
    clear c25
    by_cases c26 : tz2 < (tz0.length : Int)
    ·rw [if_pos c26] at H
     have c26b0 : decide (tz2 < (tz0.length : Int)) = true := decide_eq_true c26
     clear c26
     obtain ⟨yz2, hyz3⟩ : ∃ y_ : List Int, y_ = (tz0.set (tz2 : Int).toNat tz5) := ⟨_, rfl⟩
     replace H : (some (yz2, tz6)) = some (r1, r2) := by (rw [hyz3]; with_reducible exact H)
     have Nyz3 := mk hyz3
     clear hyz3
     simp only [Option.some.injEq, Prod.mk.injEq] at H
     obtain ⟨rfl, rfl⟩ := H
     go_enter Try.func99, Try.ntmps99
     go_wp2_with (first | ((with_reducible refine gate_callee (f := 71) rfl ?_); refine goesL_ (some 9) rfl rfl Try.func71 (by kernel_rfl) rfl #[.slice A1 l1.length c1] rfl (by (try simp only [List.map_toArray, List.map_cons, List.map_nil]); rfl) ?_; (with_reducible refine (spec_copyInts.calls _ _ l1 tz0 _ ?side1 ?side2 A4.out).mono ?_); (case side1 => exact Kd.C_keep 0 HR1.out HK.out hf1); (case side2 => exact HC1.out); rintro e w28 ⟨vz0, rfl, ho0, hb⟩; refine ⟨_, rfl, ?_⟩; have HOz0 := mk (Kd.R_lower ho0 (keep_size (w := w) (g := g) (row := none) HK.out)); replace HI0 := mk (IsS90.below HI0.out hb); replace HK := mk (KeepBut.trans HK.out (KeepBut.of_below hb g none) (.inl rfl)); replace HB := mk (below_step HB.out hb); (try clear hb); (try clear ho0)) | ((with_reducible refine gate_callee (f := 90) rfl ?_); refine goesL_ (some 11) rfl rfl Try.func90 (by kernel_rfl) rfl #[.pointer (some ⟨g, 0, none⟩), .int .i64 20] rfl (by (try simp only [List.map_toArray, List.map_cons, List.map_nil]); rfl) ?_; (with_reducible refine (spec_reader_pick.calls k g s0_0 s0_1 20 tz1 tz3 w0 _ ?side1 ?side2 A5.out).mono ?_); (case side1 => repeat (with_reducible exact HI0.out)); (case side2 => repeat (with_reducible exact HB.out)); rintro e w29 ⟨rfl, hi, hb, hk⟩; refine ⟨_, rfl, ?_⟩; replace HOz0 := mk (Kd.R_mono (Kd.R_keep (IsS90.apart (show IsS90 w0 _ g s0_0 s0_1 from by exact HI0.out) HOz0.out (by decide)) hk (fun _ h => h.2)) (fun _ h => h.1)); replace HK := mk (KeepBut.trans HK.out hk (.inl rfl)); replace HB := mk (hb); replace HI0 := mk (hi); (try clear hb); (try clear hk); (try clear hi); obtain ⟨Ao30, co30, eo30⟩ := Kd.R_slice HOz0.out; subst eo30) | ((with_reducible refine gate_callee (f := 90) rfl ?_); refine goesL_ (some 34) rfl rfl Try.func90 (by kernel_rfl) rfl #[.pointer (some ⟨g, 0, none⟩), .int .i64 (tz0.length : Int)] rfl (by (try simp only [List.map_toArray, List.map_cons, List.map_nil]); rfl) ?_; (with_reducible refine (spec_reader_pick.calls k g s0_0 tz3 (tz0.length : Int) tz2 tz4 w0 _ ?side1 ?side2 A23.out).mono ?_); (case side1 => repeat (with_reducible exact HI0.out)); (case side2 => repeat (with_reducible exact HB.out)); rintro e w31 ⟨rfl, hi, hb, hk⟩; refine ⟨_, rfl, ?_⟩; replace HOz0 := mk (Kd.R_mono (Kd.R_keep (IsS90.apart (show IsS90 w0 _ g s0_0 tz3 from by exact HI0.out) HOz0.out (by decide)) hk (fun _ h => h.2)) (fun _ h => h.1)); replace HK := mk (KeepBut.trans HK.out hk (.inl rfl)); replace HB := mk (hb); replace HI0 := mk (hi); (try clear hb); (try clear hk); (try clear hi)) | ((with_reducible refine gate_dst (N := 37) rfl ?_); refine Kd.R_lit (Kd.int .i64) _ 3 ?hg (N := 37) ?hd (xs := ([(-1), a2, 0, 1] : List Int)) (inner := [.int .i64 (-1), .int .i64 a2, .int .i64 0, .int .i64 1]) (ok := fun _ => True) (okp := fun _ => True) ?hr ?hp (fun _ hk => hk) trivial (Below.refl _ _) (Nat.le_refl _) (by simp) ?_; (case hd => rfl); (case hg => rfl); (case hr => (go_simp; done)); (case hp => exact (Reps.one (show Kd.M (Kd.int .i64) _ _ _ (-1) [.int .i64 (-1)] from rfl) (Reps.one (show Kd.M (Kd.int .i64) _ _ _ a2 [.int .i64 a2] from rfl) (Reps.one (show Kd.M (Kd.int .i64) _ _ _ 0 [.int .i64 0] from rfl) (Reps.one (show Kd.M (Kd.int .i64) _ _ _ 1 [.int .i64 1] from rfl) (Reps.none _ _)))))); intro vz2 w32 ho33 hb hg_ hnew_; clear hg_ hnew_; (rw [← Nyz2.out] at ho33); have HOz1 := mk (Kd.R_lower (Kd.R_new' ho33 (Kd.R_lt HOz0.out)) (keep_size (w := w) (g := g) (row := none) HK.out)); replace HOz0 := mk (Kd.R_elder' HOz0.out (Kd.R_base ho33) hb); replace HI0 := mk (IsS90.below HI0.out hb); replace HK := mk (KeepBut.trans HK.out (KeepBut.of_below hb g none) (.inl rfl)); replace HB := mk (below_step HB.out hb); clear hb ho33; obtain ⟨Ao34, co34, eo34⟩ := Kd.R_slice HOz1.out; subst eo34) | ((with_reducible refine gate_callee (f := 85) rfl ?_); refine goesL_ (some 38) rfl rfl Try.func85 (by kernel_rfl) rfl #[.pointer (some ⟨g, 0, none⟩), .slice Ao34 yz1.length co34] rfl (by (try simp only [List.map_toArray, List.map_cons, List.map_nil]); rfl) ?_; (with_reducible refine (spec_reader_one.calls k g s0_0 tz4 _ _ yz1 tz5 tz6 w0 _ ?side1 ?side2 ?side3 ?side4 ?side5 A24.out).mono ?_); (case side1 => repeat (with_reducible exact HI0.out)); (case side2 => repeat (with_reducible exact HB.out)); (case side3 => repeat (exact (Kd.R_reads' HOz1.out).2.2)); (case side4 => exact (Kd.R_reads' HOz1.out).2.1); (case side5 => exact far_slice (IsS90.own_ne HI0.out HOz1.out (by decide))); rintro e w35 ⟨rfl, hi, hb, hk⟩; refine ⟨_, rfl, ?_⟩; replace HOz0 := mk (Kd.R_mono (Kd.R_keep (IsS90.apart (show IsS90 w0 _ g s0_0 tz4 from by exact HI0.out) HOz0.out (by decide)) hk (fun _ h => h.2)) (fun _ h => h.1)); replace HOz1 := mk (Kd.R_mono (Kd.R_keep (IsS90.apart (show IsS90 w0 _ g s0_0 tz4 from by exact HI0.out) HOz1.out (by decide)) hk (fun _ h => h.2)) (fun _ h => h.1)); replace HK := mk (KeepBut.trans HK.out hk (.inl rfl)); replace HB := mk (hb); replace HI0 := mk (hi); (try clear hb); (try clear hk); (try clear hi); have p27 : 0 ≤ (tz2 : Int) := of_decide_eq_true (by (with_reducible assumption)); have q27 : (tz2 : Int) < ((tz0.length : Int) : Int) := of_decide_eq_true (by (with_reducible assumption)); obtain ⟨go27, co27, eo27, gb27, gl27, cl27, HG27⟩ := Kd.R_form HOz0.out (by omega); (cases eo27); have GB27 := mk gb27; clear gb27 gl27 HG27; obtain ⟨hx27_0, hf27_0⟩ := Kd.R_celln 0 HOz0.out (tz2 : Int) p27 q27; replace p27 := eq_true p27; replace q27 := eq_true q27; have n_ := mk (Kd.R_mono (ok' := (fun k_ => some k_ ≠ (.slice Ao34 yz1.length co34 : Value).ownBlock)) HOz0.out (fun k_ hk => hk.2)); clear HOz0; have HOz0 := n_; clear n_; obtain ⟨hy36_, hz36_⟩ := Kd.R_celln 0 HOz0.out (tz2 : Int) (of_decide_eq_true (by (with_reducible assumption))) (of_decide_eq_true (by (with_reducible assumption))); have HP36 := Kd.R_putg HOz0.out (tz2 : Int) tz5) | ((with_reducible refine gate_store (t := 3) (p := 39) rfl ?_); refine store_event (t := 3) (p := 39) (v := ?vo_w37) (w1 := (w35.setCell ⟨go27, (tz2 : Int).toNat, none⟩ (.int .i64 tz5))) ?hg ?ho ?hn ?hr ?_; (case ho => rfl); (case hg => rfl); (case hn => rfl); (case hr => (go_simp; done)); intro w37 hw; have hg : w35.grownBy w37 (some go27) := (by rw [hw]; exact HP36.2); have hp_ : Kd.R (Kd.int .i64) 3 w37 w.heap.size (fun k_ => some k_ ≠ (.slice Ao34 yz1.length co34 : Value).ownBlock) (.slice (some ⟨go27, 0, none⟩) tz0.length co30) yz2 := (by rw [hw, Nyz3.out]; exact HP36.1); clear HP36; have n0_ := mk (IsS90.grown HI0.out hg (IsS90.own_ne HI0.out HOz0.out (by decide))); have n1_ := mk (hp_); have n3_ := mk ((by rw [hw]; exact below_set HB.out (Nat.le_trans HL.out GB27.out) : Below w0.heap.size w0 w37)); have n4_ := mk (KeepBut.trans HK.out (KeepBut.of_grown hg g) (Kd.R_base2 HOz0.out)); clear HI0; clear HOz0; clear HOz1; clear HB; clear HK; have HI0 := n0_; have HOz0 := n1_; have HB := n3_; have HK := n4_; clear hg hw hp_))
     go_ret
     exact ⟨_, by rfl, Kd.Q_of_R (by exact Kd.R_mono HOz0.out (fun _ hk => trivial)), by exact HI0.out, by exact HB.out, by exact HK.out⟩
    rw [if_neg c26] at H
    exact absurd H (by simp)
   rw [if_neg c25] at H
   exact absurd H (by simp)
  rw [if_neg c22] at H
  have c22b1 : decide (0 < tz0.length) = false := decide_eq_false (by omega)
  clear c22
  simp only [Option.some.injEq, Prod.mk.injEq] at H
  obtain ⟨rfl, rfl⟩ := H
  go_enter Try.func99, Try.ntmps99
  go_wp2_with (first | ((with_reducible refine gate_callee (f := 71) rfl ?_); refine goesL_ (some 9) rfl rfl Try.func71 (by kernel_rfl) rfl #[.slice A1 l1.length c1] rfl (by (try simp only [List.map_toArray, List.map_cons, List.map_nil]); rfl) ?_; (with_reducible refine (spec_copyInts.calls _ _ l1 tz0 _ ?side1 ?side2 A4.out).mono ?_); (case side1 => exact Kd.C_keep 0 HR1.out HK.out hf1); (case side2 => exact HC1.out); rintro e w38 ⟨vz0, rfl, ho0, hb⟩; refine ⟨_, rfl, ?_⟩; have HOz0 := mk (Kd.R_lower ho0 (keep_size (w := w) (g := g) (row := none) HK.out)); replace HI0 := mk (IsS90.below HI0.out hb); replace HK := mk (KeepBut.trans HK.out (KeepBut.of_below hb g none) (.inl rfl)); replace HB := mk (below_step HB.out hb); (try clear hb); (try clear ho0)) | ((with_reducible refine gate_callee (f := 90) rfl ?_); refine goesL_ (some 11) rfl rfl Try.func90 (by kernel_rfl) rfl #[.pointer (some ⟨g, 0, none⟩), .int .i64 20] rfl (by (try simp only [List.map_toArray, List.map_cons, List.map_nil]); rfl) ?_; (with_reducible refine (spec_reader_pick.calls k g s0_0 s0_1 20 tz1 tz3 w0 _ ?side1 ?side2 A5.out).mono ?_); (case side1 => repeat (with_reducible exact HI0.out)); (case side2 => repeat (with_reducible exact HB.out)); rintro e w39 ⟨rfl, hi, hb, hk⟩; refine ⟨_, rfl, ?_⟩; replace HOz0 := mk (Kd.R_mono (Kd.R_keep (IsS90.apart (show IsS90 w0 _ g s0_0 s0_1 from by exact HI0.out) HOz0.out (by decide)) hk (fun _ h => h.2)) (fun _ h => h.1)); replace HK := mk (KeepBut.trans HK.out hk (.inl rfl)); replace HB := mk (hb); replace HI0 := mk (hi); (try clear hb); (try clear hk); (try clear hi); obtain ⟨Ao40, co40, eo40⟩ := Kd.R_slice HOz0.out; subst eo40))
  go_ret
  exact ⟨_, by rfl, Kd.Q_of_R HOz0.out, by exact HI0.out, by exact HB.out, by exact HK.out⟩
 rw [if_neg c21] at H
 have c21b0 : (tz1 == 2) = false := beq_eq_false_iff_ne.mpr c21
 simp only [Option.some.injEq, Prod.mk.injEq] at H
 obtain ⟨rfl, rfl⟩ := H
 go_enter Try.func99, Try.ntmps99
 go_wp2_with (first | ((with_reducible refine gate_callee (f := 71) rfl ?_); refine goesL_ (some 9) rfl rfl Try.func71 (by kernel_rfl) rfl #[.slice A1 l1.length c1] rfl (by (try simp only [List.map_toArray, List.map_cons, List.map_nil]); rfl) ?_; (with_reducible refine (spec_copyInts.calls _ _ l1 tz0 _ ?side1 ?side2 A4.out).mono ?_); (case side1 => exact Kd.C_keep 0 HR1.out HK.out hf1); (case side2 => exact HC1.out); rintro e w41 ⟨vz0, rfl, ho0, hb⟩; refine ⟨_, rfl, ?_⟩; have HOz0 := mk (Kd.R_lower ho0 (keep_size (w := w) (g := g) (row := none) HK.out)); replace HI0 := mk (IsS90.below HI0.out hb); replace HK := mk (KeepBut.trans HK.out (KeepBut.of_below hb g none) (.inl rfl)); replace HB := mk (below_step HB.out hb); (try clear hb); (try clear ho0)) | ((with_reducible refine gate_callee (f := 90) rfl ?_); refine goesL_ (some 11) rfl rfl Try.func90 (by kernel_rfl) rfl #[.pointer (some ⟨g, 0, none⟩), .int .i64 20] rfl (by (try simp only [List.map_toArray, List.map_cons, List.map_nil]); rfl) ?_; (with_reducible refine (spec_reader_pick.calls k g s0_0 s0_1 20 tz1 tz3 w0 _ ?side1 ?side2 A5.out).mono ?_); (case side1 => repeat (with_reducible exact HI0.out)); (case side2 => repeat (with_reducible exact HB.out)); rintro e w42 ⟨rfl, hi, hb, hk⟩; refine ⟨_, rfl, ?_⟩; replace HOz0 := mk (Kd.R_mono (Kd.R_keep (IsS90.apart (show IsS90 w0 _ g s0_0 s0_1 from by exact HI0.out) HOz0.out (by decide)) hk (fun _ h => h.2)) (fun _ h => h.1)); replace HK := mk (KeepBut.trans HK.out hk (.inl rfl)); replace HB := mk (hb); replace HI0 := mk (hi); (try clear hb); (try clear hk); (try clear hi)))
 go_ret
 exact ⟨_, by rfl, Kd.Q_of_R HOz0.out, by exact HI0.out, by exact HB.out, by exact HK.out⟩


def spec_anyPixel.l0 : Nat → Int → List Int → Int → List Int → Int → Option (List Int × Int)
 | 0, _, _, _, _, _ => none
 | k + 1, x1, x5, x6, x1000, x1001 => if x6 < x1 then ((spec_reader_pick.f k x1000 x1001 256).bind fun btz0 => (if x5.length < 17592186044416 then (spec_anyPixel.l0 k x1 (x5 ++ [btz0.1]) (wrap64 (x6 + 1)) x1000 btz0.2) else none)) else ((spec_reader_spoil.f k x1000 x1001 x5 256).bind fun btz1 => (some (btz1.1, btz1.2)))
def spec_anyPixel.f (k : Nat) (s0_0 : List Int) (s0_1 : Int) (a1 : Int) : Option (List Int × Int) := spec_anyPixel.l0 k a1 ([] : List Int) 0 s0_0 s0_1
theorem spec_anyPixel.calls (k : Nat) (g : Nat) (s0_0 : List Int) (s0_1 : Int) (a1 : Int) (r1 : List Int) (r2 : Int) (w0 w : World) (hI : IsS90 w0 w g s0_0 s0_1) (hB : Below w0.heap.size w0 w) (h : spec_anyPixel.f k s0_0 s0_1 a1 = some (r1, r2)) :
  Calls Try.prog 87 #[.pointer (some ⟨g, 0, none⟩), .int .i64 a1] w fun e w' => ∃ v0_ : Value, e = .returned v0_ ∧ Kd.Q (Kd.int .i64) 3 w' w.heap.size (fun _ => True) v0_ r1 ∧ IsS90 w0 w' g s0_0 r2 ∧ Below w0.heap.size w0 w' ∧ KeepBut w w' g none := by
 have HI0 := mk hI
 have HK := mk (KeepBut.refl w g none)
 have HL := mk hB.size
 clear hI
 have HW0 := mk hB.size
 have HB := mk hB
 clear hB
 have H : (spec_anyPixel.l0 k a1 ([] : List Int) 0 s0_0 s0_1) = some (r1, r2) := h
 clear h
 obtain ⟨yz0, hyz0⟩ : ∃ y_ : List Int, y_ = ([] : List Int) := ⟨_, rfl⟩
 replace H : (spec_anyPixel.l0 k a1 yz0 0 s0_0 s0_1) = some (r1, r2) := by (rw [hyz0]; with_reducible exact H)
 have Nyz0 := mk hyz0
 clear hyz0
 have H' := mk H
 clear H
 go_enter Try.func87, Try.ntmps87
 go_wp2_with (first | ((with_reducible refine gate_dst (N := 7) rfl ?_); refine Kd.R_lit (Kd.int .i64) _ 3 ?hg (N := 7) ?hd (xs := ([] : List Int)) (inner := []) (ok := fun _ => True) (okp := fun _ => True) ?hr ?hp (fun _ hk => hk) trivial (Below.refl _ _) (Nat.le_refl _) (by simp) ?_; (case hd => rfl); (case hg => rfl); (case hr => (go_simp; done)); (case hp => exact (Reps.none _ _)); intro vz0 w3 ho4 hb hg_ hnew_; clear hg_ hnew_; (rw [← Nyz0.out] at ho4); have HOz0 := mk (Kd.R_lower ho4 (keep_size (w := w) (g := g) (row := none) HK.out)); replace HI0 := mk (IsS90.below HI0.out hb); replace HK := mk (KeepBut.trans HK.out (KeepBut.of_below hb g none) (.inl rfl)); replace HB := mk (below_step HB.out hb); clear hb ho4))
 go_loopg [5, 6] k (fun kq v5 v6 w' => ∃ (x5_1 : List Int) (x6_1 : Int) (x1001_1 : Int), v6 = .int .i64 x6_1 ∧ Aside0 (spec_anyPixel.l0 kq a1 x5_1 x6_1 s0_0 x1001_1 = some (r1, r2)) ∧ Aside0 (kq ≤ k) ∧ Aside0 (Kd.R (Kd.int .i64) 3 w' w.heap.size (fun _ => True) v5 x5_1) ∧ Aside0 (IsS90 w0 w' g s0_0 x1001_1) ∧ Aside0 (KeepBut w w' g none) ∧ Aside0 (Below w0.heap.size w0 w'))
 case atStart => exact ⟨(yz0), (0), (s0_1), (by rfl), H', ⟨Nat.le_refl _⟩, HOz0, HI0, HK, HB⟩
 case round =>
  clear H'
  obtain ⟨x5_1, x6_1, x1001_1, rfl, HA, HK1, HO_5, HI0, HK, HB⟩ := hrel
  cases gk with
  | zero => exact absurd HA.out (by simp [spec_anyPixel.l0])
  | succ k1 =>
   have H := HA.out
   clear HA
   simp only [spec_anyPixel.l0] at H
   by_cases c5 : x6_1 < a1
   ·rw [if_pos c5] at H
    have c5b0 : decide (x6_1 < a1) = true := decide_eq_true c5
    clear c5
    replace H := Option.bind_eq_some_iff.mp H
    obtain ⟨⟨tz0, tz1⟩, A60, H⟩ := H
    replace H : (if x5_1.length < 17592186044416 then (spec_anyPixel.l0 k1 a1 (x5_1 ++ [tz0]) (wrap64 (x6_1 + 1)) s0_0 tz1) else none) = some (r1, r2) := H
    have A6 := mk A60
    clear A60
    by_cases c7 : x5_1.length < 17592186044416
    ·rw [if_pos c7] at H
     have LMc7 := mk c7
     clear c7
     obtain ⟨yz1, hyz1⟩ : ∃ y_ : List Int, y_ = (x5_1 ++ [tz0]) := ⟨_, rfl⟩
     replace H : (spec_anyPixel.l0 k1 a1 yz1 (wrap64 (x6_1 + 1)) s0_0 tz1) = some (r1, r2) := by (rw [hyz1]; with_reducible exact H)
     have Nyz1 := mk hyz1
     clear hyz1
     have H' := mk H
     clear H
     go_wp2_with (first | ((with_reducible refine gate_callee (f := 90) rfl ?_); refine goesL_ (some 15) rfl rfl Try.func90 (by kernel_rfl) rfl #[.pointer (some ⟨g, 0, none⟩), .int .i64 256] rfl (by (try simp only [List.map_toArray, List.map_cons, List.map_nil]); rfl) ?_; (with_reducible refine (spec_reader_pick.calls k1 g s0_0 x1001_1 256 tz0 tz1 w0 _ ?side1 ?side2 A6.out).mono ?_); (case side1 => repeat (with_reducible exact HI0.out)); (case side2 => repeat (with_reducible exact HB.out)); rintro e w8 ⟨rfl, hi, hb, hk⟩; refine ⟨_, rfl, ?_⟩; replace HO_5 := mk (Kd.R_mono (Kd.R_keep (IsS90.apart (show IsS90 w0 _ g s0_0 x1001_1 from by exact HI0.out) HO_5.out (by decide)) hk (fun _ h => h.2)) (fun _ h => h.1)); replace HK := mk (KeepBut.trans HK.out hk (.inl rfl)); replace HB := mk (hb); replace HI0 := mk (hi); (try clear hb); (try clear hk); (try clear hi)) | ((with_reducible refine gate_builtin (b := .append) (xs := #[.tmp 13, .tmp 16]) rfl ?_); at_builtin; refine Kd.R_append (Kd.int .i64) w.heap.size rfl (.tmp 13) (.tmp 16) 22 3 (.int .i64 0) 8 rfl Try.underlying22 info3 rfl (by decide) (by omega) u5 x5_1 tz0 [.int .i64 tz0] (fun _ => True) (fun _ => False) rfl rfl ?aP (fun _ hk => hk.elim) ?aF ?aO (Below.refl _ _) ?aS ?aL ?_; (case aP => exact rfl); (case aF => exact (fun _ _ => trivial)); (case aO => exact HO_5.out); (case aS => exact (keep_size (w := w) (g := g) (row := none) HK.out)); (case aL => have := LMc7.out; omega); intro vz1 w9 ho hb hg hat; rw [← Nyz1.out] at ho; have n0_ := mk (IsS90.grown HI0.out hg (IsS90.own_ne HI0.out HO_5.out (by decide))); have n1_ := mk (below_weaken HB.out HL.out hb); have n2_ := mk (KeepBut.trans HK.out (KeepBut.of_grown hg g) (Kd.R_base2 HO_5.out)); have n3_ := mk (ho); clear HI0; clear HB; clear HK; clear HO_5; have HI0 := n0_; have HB := n1_; have HK := n2_; have HOz1 := n3_; clear ho hb hg hat))
     go_roundg k1
     case measure => have := HK1.out; omega
     case rel => exact ⟨(yz1), (wrap64 (x6_1 + 1)), (tz1), (by rfl), H', ⟨by have := HK1.out; omega⟩, HOz1, HI0, HK, HB⟩
    rw [if_neg c7] at H
    exact absurd H (by simp)
   rw [if_neg c5] at H
   have c5b0 : decide (x6_1 < a1) = false := decide_eq_false c5
   clear c5
   replace H := Option.bind_eq_some_iff.mp H
   obtain ⟨⟨tz2, tz3⟩, A100, H⟩ := H
   replace H : (some (tz2, tz3)) = some (r1, r2) := H
   have A10 := mk A100
   clear A100
   simp only [Option.some.injEq, Prod.mk.injEq] at H
   obtain ⟨rfl, rfl⟩ := H
   obtain ⟨Ao11, co11, eo11⟩ := Kd.R_slice HO_5.out
   subst eo11
   go_wp2_with (first | ((with_reducible refine gate_callee (f := 99) rfl ?_); refine goesL_ (some 20) rfl rfl Try.func99 (by kernel_rfl) rfl #[.pointer (some ⟨g, 0, none⟩), .slice Ao11 x5_1.length co11, .int .i64 256] rfl (by (try simp only [List.map_toArray, List.map_cons, List.map_nil]); rfl) ?_; (with_reducible refine (spec_reader_spoil.calls k1 g s0_0 x1001_1 _ _ x5_1 256 tz2 tz3 w0 _ ?side1 ?side2 ?side3 ?side4 ?side5 A10.out).mono ?_); (case side1 => repeat (with_reducible exact HI0.out)); (case side2 => repeat (with_reducible exact HB.out)); (case side3 => repeat (exact (Kd.R_reads' HO_5.out).2.2)); (case side4 => exact (Kd.R_reads' HO_5.out).2.1); (case side5 => exact far_slice (IsS90.own_ne HI0.out HO_5.out (by decide))); rintro e w12 ⟨vz2, rfl, ho0, hi, hb, hk⟩; refine ⟨_, rfl, ?_⟩; have n1_ := mk (Kd.Q_lower (Kd.Q_new' ho0 (Kd.R_lt HO_5.out)) (keep_size (w := w) (g := g) (row := none) HK.out)); have n2_ := mk (KeepBut.trans HK.out hk (.inl rfl)); have n3_ := mk (hb); have n4_ := mk (hi); clear HO_5; clear HK; clear HB; clear HI0; have HOz2 := n1_; have HK := n2_; have HB := n3_; have HI0 := n4_; (try clear hb); (try clear hk); (try clear hi); (try clear ho0)))
   go_ret
   exact ⟨_, by rfl, by exact Kd.Q_mono HOz2.out (fun _ hk => trivial), by exact HI0.out, by exact HB.out, by exact HK.out⟩


def spec_anyStep.j0 : Nat → Int → Bool → List Int → Int → Int → Int → Int → Int → Int → Option (Int × Int × Int × Int × Int × List Int × Int)
 | 0, _, _, _, _, _, _, _, _, _ => none
 | k + 1, x1, x17, x1000, x1001, xz0, xz1, xz2, xz3, xz4 => if x17 = true then ((spec_anyBox.f k x1000 x1001).bind fun btz0 => (if xz0 = 4 then ((spec_anyPixel.f k x1000 btz0.2.2.2.2 x1).bind fun btz2 => (some (xz0, btz0.1, btz0.2.1, btz0.2.2.1, btz0.2.2.2.1, btz2.1, btz2.2))) else (some (xz0, btz0.1, btz0.2.1, btz0.2.2.1, btz0.2.2.2.1, ([] : List Int), btz0.2.2.2.2)))) else (if xz0 = 4 then ((spec_anyPixel.f k x1000 x1001 x1).bind fun btz3 => (some (xz0, xz1, xz2, xz3, xz4, btz3.1, btz3.2))) else (some (xz0, xz1, xz2, xz3, xz4, ([] : List Int), x1001)))
def spec_anyStep.f (k : Nat) (s0_0 : List Int) (s0_1 : Int) (a1 : Int) : Option (Int × Int × Int × Int × Int × List Int × Int) := (spec_reader_one.f k s0_0 s0_1 (([0, 1, 2, 3, 4, 0, 1, 2, 5, (-1)] : List Int))).bind fun btz1 => (if btz1.1 = 3 then (spec_anyStep.j0 k a1 true s0_0 btz1.2 btz1.1 0 0 0 0) else (spec_anyStep.j0 k a1 (btz1.1 == 4) s0_0 btz1.2 btz1.1 0 0 0 0))
theorem spec_anyStep.calls (k : Nat) (g : Nat) (s0_0 : List Int) (s0_1 : Int) (a1 : Int) (r1 : Int) (r2 : Int) (r3 : Int) (r4 : Int) (r5 : Int) (r6 : List Int) (r7 : Int) (w0 w : World) (hI : IsS90 w0 w g s0_0 s0_1) (hB : Below w0.heap.size w0 w) (h : spec_anyStep.f k s0_0 s0_1 a1 = some (r1, r2, r3, r4, r5, r6, r7)) :
  Calls Try.prog 51 #[.pointer (some ⟨g, 0, none⟩), .int .i64 a1] w fun e w' => ∃ v5_ : Value, e = .returned (.agg #[.int .i64 r1, .int .i64 r2, .int .i64 r3, .int .i64 r4, .int .i64 r5, v5_]) ∧ Kd.Q (Kd.int .i64) 3 w' w.heap.size (fun _ => True) v5_ r6 ∧ IsS90 w0 w' g s0_0 r7 ∧ Below w0.heap.size w0 w' ∧ KeepBut w w' g none := by
 have HI0 := mk hI
 have HK := mk (KeepBut.refl w g none)
 clear hI
 have HW0 := mk hB.size
 have HB := mk hB
 clear hB
 have H : ((spec_reader_one.f k s0_0 s0_1 (([0, 1, 2, 3, 4, 0, 1, 2, 5, (-1)] : List Int))).bind fun btz1 => (if btz1.1 = 3 then (spec_anyStep.j0 k a1 true s0_0 btz1.2 btz1.1 0 0 0 0) else (spec_anyStep.j0 k a1 (btz1.1 == 4) s0_0 btz1.2 btz1.1 0 0 0 0))) = some (r1, r2, r3, r4, r5, r6, r7) := h
 clear h
 obtain ⟨yz0, hyz0⟩ : ∃ y_ : List Int, y_ = (([0, 1, 2, 3, 4, 0, 1, 2, 5, (-1)] : List Int)) := ⟨_, rfl⟩
 replace H : ((spec_reader_one.f k s0_0 s0_1 yz0).bind fun btz1 => (if btz1.1 = 3 then (spec_anyStep.j0 k a1 true s0_0 btz1.2 btz1.1 0 0 0 0) else (spec_anyStep.j0 k a1 (btz1.1 == 4) s0_0 btz1.2 btz1.1 0 0 0 0))) = some (r1, r2, r3, r4, r5, r6, r7) := by (rw [hyz0]; with_reducible exact H)
 have Nyz0 := mk hyz0
 clear hyz0
 replace H := Option.bind_eq_some_iff.mp H
 obtain ⟨⟨tz0, tz4⟩, A30, H⟩ := H
 replace H : (if tz0 = 3 then (spec_anyStep.j0 k a1 true s0_0 tz4 tz0 0 0 0 0) else (spec_anyStep.j0 k a1 (tz0 == 4) s0_0 tz4 tz0 0 0 0 0)) = some (r1, r2, r3, r4, r5, r6, r7) := H
 have A3 := mk A30
 clear A30
 have HC4 := mk H
 clear H
 go_enter Try.func51, Try.ntmps51
 go_upto_region 2 with (first | ((with_reducible refine gate_dst (N := 4) rfl ?_); refine box_event (by rfl) (N := 4) (by rfl) (cs := #[.int .i64 0, .int .i64 0, .int .i64 0, .int .i64 0, .int .i64 0, .slice none 0 0]) (t := 43) (by go_simp; done) ?_; intro gbz0 hg w5 hbox hb; replace HB := mk (below_step HB.out hb); have BKz0 := mk (hbox); have GWz1 := mk ((by rw [hg]; exact (keep_size (w := w) (g := g) (row := none) HK.out) : w.heap.size ≤ gbz0)); have GEz1 := mk ((Nat.le_trans HW0.out (by rw [hg]; exact (keep_size (w := w) (g := g) (row := none) HK.out) : w.heap.size ≤ gbz0) : w0.heap.size ≤ gbz0)); replace HK := mk (KeepBut.trans HK.out (KeepBut.of_below hb g none) (.inl rfl)); have NBz3 := mk ((by rw [hg]; exact Nat.ne_of_lt (IsS90.lt (show IsS90 w0 _ g s0_0 s0_1 from by exact HI0.out)) : g ≠ gbz0)); have NBz2 := mk ((by rw [hg]; exact Nat.ne_of_gt (IsS90.lt (show IsS90 w0 _ g s0_0 s0_1 from by exact HI0.out)) : gbz0 ≠ g)); replace HI0 := mk (IsS90.below HI0.out hb); clear hb hbox hg) | ((with_reducible refine gate_dst (N := 7) rfl ?_); refine Kd.R_lit (Kd.int .i64) _ 3 ?hg (N := 7) ?hd (xs := ([0, 1, 2, 3, 4, 0, 1, 2, 5, (-1)] : List Int)) (inner := [.int .i64 0, .int .i64 1, .int .i64 2, .int .i64 3, .int .i64 4, .int .i64 0, .int .i64 1, .int .i64 2, .int .i64 5, .int .i64 (-1)]) (ok := fun _ => True) (okp := fun _ => True) ?hr ?hp (fun _ hk => hk) trivial (Below.refl _ _) (Nat.le_refl _) (by simp) ?_; (case hd => rfl); (case hg => rfl); (case hr => (go_simp; done)); (case hp => exact (Reps.one (show Kd.M (Kd.int .i64) _ _ _ 0 [.int .i64 0] from rfl) (Reps.one (show Kd.M (Kd.int .i64) _ _ _ 1 [.int .i64 1] from rfl) (Reps.one (show Kd.M (Kd.int .i64) _ _ _ 2 [.int .i64 2] from rfl) (Reps.one (show Kd.M (Kd.int .i64) _ _ _ 3 [.int .i64 3] from rfl) (Reps.one (show Kd.M (Kd.int .i64) _ _ _ 4 [.int .i64 4] from rfl) (Reps.one (show Kd.M (Kd.int .i64) _ _ _ 0 [.int .i64 0] from rfl) (Reps.one (show Kd.M (Kd.int .i64) _ _ _ 1 [.int .i64 1] from rfl) (Reps.one (show Kd.M (Kd.int .i64) _ _ _ 2 [.int .i64 2] from rfl) (Reps.one (show Kd.M (Kd.int .i64) _ _ _ 5 [.int .i64 5] from rfl) (Reps.one (show Kd.M (Kd.int .i64) _ _ _ (-1) [.int .i64 (-1)] from rfl) (Reps.none _ _)))))))))))); intro vz0 w6 ho7 hb hg_ hnew_; clear hg_ hnew_; (rw [← Nyz0.out] at ho7); have HOz0 := mk (Kd.R_lower ho7 (keep_size (w := w) (g := g) (row := none) HK.out)); replace HI0 := mk (IsS90.below HI0.out hb); replace BKz0 := mk (blk_below BKz0.out hb); replace HK := mk (KeepBut.trans HK.out (KeepBut.of_below hb g none) (.inl rfl)); replace HB := mk (below_step HB.out hb); clear hb ho7; obtain ⟨Ao8, co8, eo8⟩ := Kd.R_slice HOz0.out; subst eo8) | ((with_reducible refine gate_callee (f := 85) rfl ?_); refine goesL_ (some 8) rfl rfl Try.func85 (by kernel_rfl) rfl #[.pointer (some ⟨g, 0, none⟩), .slice Ao8 yz0.length co8] rfl (by (try simp only [List.map_toArray, List.map_cons, List.map_nil]); rfl) ?_; (with_reducible refine (spec_reader_one.calls k g s0_0 s0_1 _ _ yz0 tz0 tz4 w0 _ ?side1 ?side2 ?side3 ?side4 ?side5 A3.out).mono ?_); (case side1 => repeat (with_reducible exact HI0.out)); (case side2 => repeat (with_reducible exact HB.out)); (case side3 => repeat (exact (Kd.R_reads' HOz0.out).2.2)); (case side4 => exact (Kd.R_reads' HOz0.out).2.1); (case side5 => exact far_slice (IsS90.own_ne HI0.out HOz0.out (by decide))); rintro e w9 ⟨rfl, hi, hb, hk⟩; refine ⟨_, rfl, ?_⟩; replace BKz0 := mk (KeepBut.blk hk (g' := gbz0) (o := .cells #[.int .i64 0, .int .i64 0, .int .i64 0, .int .i64 0, .int .i64 0, .slice none 0 0] 43 (0, 0)) BKz0.out NBz2.out (by simp)); replace HOz0 := mk (Kd.R_mono (Kd.R_keep (IsS90.apart (show IsS90 w0 _ g s0_0 s0_1 from by exact HI0.out) HOz0.out (by decide)) hk (fun _ h => h.2)) (fun _ h => h.1)); replace HK := mk (KeepBut.trans HK.out hk (.inl rfl)); replace HB := mk (hb); replace HI0 := mk (hi); (try clear hb); (try clear hk); (try clear hi)) | ((with_reducible refine gate_dst (N := 5) rfl ?_); refine box_event (by rfl) (N := 5) (by rfl) (cs := #[.int .i64 0, .int .i64 0, .int .i64 0, .int .i64 0, .int .i64 0, .slice none 0 0]) (t := 43) (by go_simp; done) ?_; intro gbz1 hg w10 hbox hb; have n1_ := mk (IsS90.below HI0.out hb); have n2_ := mk (blk_below BKz0.out hb); have n3_ := mk (KeepBut.trans HK.out (KeepBut.of_below hb g none) (.inl rfl)); have n4_ := mk (below_step HB.out hb); have n5_ := mk (hbox); have n6_ := mk ((by rw [hg]; exact (keep_size (w := w) (g := g) (row := none) HK.out) : w.heap.size ≤ gbz1)); have n7_ := mk ((Nat.le_trans HW0.out (by rw [hg]; exact (keep_size (w := w) (g := g) (row := none) HK.out) : w.heap.size ≤ gbz1) : w0.heap.size ≤ gbz1)); have n8_ := mk ((by rw [hg]; exact Nat.ne_of_lt (blk_lt BKz0.out) : gbz0 ≠ gbz1)); have n10_ := mk ((by rw [hg]; exact Nat.ne_of_lt (IsS90.lt (show IsS90 w0 _ g s0_0 tz4 from by exact HI0.out)) : g ≠ gbz1)); have n11_ := mk ((by rw [hg]; exact Nat.ne_of_gt (IsS90.lt (show IsS90 w0 _ g s0_0 tz4 from by exact HI0.out)) : gbz1 ≠ g)); clear HOz0; clear HI0; clear BKz0; clear HK; clear HB; have HI0 := n1_; have BKz0 := n2_; have HK := n3_; have HB := n4_; have BKz1 := n5_; have GWz0 := n6_; have GEz0 := n7_; have NBz0 := n8_; have NBz1 := n10_; have NBz4 := n11_; clear hb hbox hg; obtain ⟨hcz13_0, hcz13_1, hcz13_2, hcz13_3, hcz13_4, hcz13_5, hfz13_0, hfz13_1, hfz13_2, hfz13_3, hfz13_4, hfz13_5⟩ := c6 BKz1.out))
 go_cut [17] (fun v17 wc => ∃ (kq : Nat) (x17_3 : Bool), v17 = .bool x17_3 ∧ Aside0 (spec_anyStep.j0 kq a1 x17_3 s0_0 tz4 tz0 0 0 0 0 = some (r1, r2, r3, r4, r5, r6, r7)) ∧ Aside0 (kq ≤ k) ∧ Aside0 (wc.heap[gbz0]? = some (.cells #[.int .i64 0, .int .i64 0, .int .i64 0, .int .i64 0, .int .i64 0, (.slice none 0 0)] 43 (0, 0))) ∧ Aside0 (wc.heap[gbz1]? = some (.cells #[.int .i64 tz0, .int .i64 0, .int .i64 0, .int .i64 0, .int .i64 0, (.slice none 0 0)] 43 (0, 0))) ∧ Aside0 (IsS90 w0 wc g s0_0 tz4) ∧ Aside0 (KeepBut w wc g none) ∧ Aside0 (Below w0.heap.size w0 wc))
 case first =>
  have H := HC4.out
  clear HC4
  by_cases c14 : tz0 = 3
  ·rw [if_pos c14] at H
   have c14b0 : (tz0 == 3) = true := beq_iff_eq.mpr c14
   clear c14
   (skip)
   have H' := mk H
   clear H
   go_wp2
   go_meet
   case rel => exact ⟨_, (true), (by rfl), H', ⟨by omega⟩, ⟨by refine blk_far ?_ NBz0.out _; refine blk_far ?_ NBz0.out _; refine blk_far ?_ NBz0.out _; refine blk_far ?_ NBz0.out _; refine blk_far ?_ NBz0.out _; refine blk_far ?_ NBz0.out _; exact BKz0.out⟩, ⟨by refine blk_put (cs := #[.int .i64 tz0, .int .i64 0, .int .i64 0, .int .i64 0, .int .i64 0, .slice none 0 0]) ?_ 5 _ rfl; refine blk_put (cs := #[.int .i64 tz0, .int .i64 0, .int .i64 0, .int .i64 0, .int .i64 0, .slice none 0 0]) ?_ 4 _ rfl; refine blk_put (cs := #[.int .i64 tz0, .int .i64 0, .int .i64 0, .int .i64 0, .int .i64 0, .slice none 0 0]) ?_ 3 _ rfl; refine blk_put (cs := #[.int .i64 tz0, .int .i64 0, .int .i64 0, .int .i64 0, .int .i64 0, .slice none 0 0]) ?_ 2 _ rfl; refine blk_put (cs := #[.int .i64 tz0, .int .i64 0, .int .i64 0, .int .i64 0, .int .i64 0, .slice none 0 0]) ?_ 1 _ rfl; refine blk_put (cs := #[.int .i64 0, .int .i64 0, .int .i64 0, .int .i64 0, .int .i64 0, .slice none 0 0]) ?_ 0 _ rfl; exact BKz1.out⟩, ⟨by repeat (with_reducible first | exact HI0.out | refine IsS90.far ?_ NBz1.out _)⟩, ⟨by repeat (with_reducible first | exact HK.out | refine keep_far ?_ GWz0.out _)⟩, ⟨by repeat (with_reducible first | exact HB.out | refine below_set ?_ GEz0.out)⟩⟩
  rw [if_neg c14] at H
  have c14b0 : (tz0 == 3) = false := beq_eq_false_iff_ne.mpr c14
  (skip)
  have H' := mk H
  clear H
  go_wp2
  go_meet
  case rel => exact ⟨_, (tz0 == 4), (by rfl), H', ⟨by omega⟩, ⟨by refine blk_far ?_ NBz0.out _; refine blk_far ?_ NBz0.out _; refine blk_far ?_ NBz0.out _; refine blk_far ?_ NBz0.out _; refine blk_far ?_ NBz0.out _; refine blk_far ?_ NBz0.out _; exact BKz0.out⟩, ⟨by refine blk_put (cs := #[.int .i64 tz0, .int .i64 0, .int .i64 0, .int .i64 0, .int .i64 0, .slice none 0 0]) ?_ 5 _ rfl; refine blk_put (cs := #[.int .i64 tz0, .int .i64 0, .int .i64 0, .int .i64 0, .int .i64 0, .slice none 0 0]) ?_ 4 _ rfl; refine blk_put (cs := #[.int .i64 tz0, .int .i64 0, .int .i64 0, .int .i64 0, .int .i64 0, .slice none 0 0]) ?_ 3 _ rfl; refine blk_put (cs := #[.int .i64 tz0, .int .i64 0, .int .i64 0, .int .i64 0, .int .i64 0, .slice none 0 0]) ?_ 2 _ rfl; refine blk_put (cs := #[.int .i64 tz0, .int .i64 0, .int .i64 0, .int .i64 0, .int .i64 0, .slice none 0 0]) ?_ 1 _ rfl; refine blk_put (cs := #[.int .i64 0, .int .i64 0, .int .i64 0, .int .i64 0, .int .i64 0, .slice none 0 0]) ?_ 0 _ rfl; exact BKz1.out⟩, ⟨by repeat (with_reducible first | exact HI0.out | refine IsS90.far ?_ NBz1.out _)⟩, ⟨by repeat (with_reducible first | exact HK.out | refine keep_far ?_ GWz0.out _)⟩, ⟨by repeat (with_reducible first | exact HB.out | refine below_set ?_ GEz0.out)⟩⟩
 case rest =>
  clear HC4
  obtain ⟨kq, x17_3, rfl, HA, HJ3, BKz0, BKz1, HI0, HK, HB⟩ := hcut
  cases kq with
  | zero => exact absurd HA.out (by simp [spec_anyStep.j0])
  | succ kj3 =>
   have H := HA.out
   clear HA
   simp only [spec_anyStep.j0] at H
   by_cases c21 : x17_3 = true
   ·subst c21
    have H1 : ((spec_anyBox.f kj3 s0_0 tz4).bind fun btz0 => (if tz0 = 4 then ((spec_anyPixel.f kj3 s0_0 btz0.2.2.2.2 a1).bind fun btz2 => (some (tz0, btz0.1, btz0.2.1, btz0.2.2.1, btz0.2.2.2.1, btz2.1, btz2.2))) else (some (tz0, btz0.1, btz0.2.1, btz0.2.2.1, btz0.2.2.2.1, ([] : List Int), btz0.2.2.2.2)))) = some (r1, r2, r3, r4, r5, r6, r7) := by rw [if_pos rfl] at H; exact H
    clear H
    have H := H1
    clear H1
    replace H := Option.bind_eq_some_iff.mp H
    obtain ⟨⟨tz1, tz2, tz3, tz5, tz6⟩, A220, H⟩ := H
    replace H : (if tz0 = 4 then ((spec_anyPixel.f kj3 s0_0 tz6 a1).bind fun btz2 => (some (tz0, tz1, tz2, tz3, tz5, btz2.1, btz2.2))) else (some (tz0, tz1, tz2, tz3, tz5, ([] : List Int), tz6))) = some (r1, r2, r3, r4, r5, r6, r7) := H
    have A22 := mk A220
    clear A220
    by_cases c23 : tz0 = 4
    ·rw [if_pos c23] at H
     have c23b0 : (tz0 == 4) = true := beq_iff_eq.mpr c23
     clear c23
     replace H := Option.bind_eq_some_iff.mp H
     obtain ⟨⟨tz7, tz9⟩, A240, H⟩ := H
     replace H : (some (tz0, tz1, tz2, tz3, tz5, tz7, tz9)) = some (r1, r2, r3, r4, r5, r6, r7) := H
     have A24 := mk A240
     clear A240
     simp only [Option.some.injEq, Prod.mk.injEq] at H
     obtain ⟨rfl, rfl, rfl, rfl, rfl, rfl, rfl⟩ := H
     go_wp2_with (first | ((with_reducible refine gate_callee (f := 86) rfl ?_); refine goesL_ (some 19) rfl rfl Try.func86 (by kernel_rfl) rfl #[.pointer (some ⟨g, 0, none⟩)] rfl (by (try simp only [List.map_toArray, List.map_cons, List.map_nil]); rfl) ?_; (with_reducible refine (spec_anyBox.calls kj3 g s0_0 tz4 tz1 tz2 tz3 tz5 tz6 w0 _ ?side1 ?side2 A22.out).mono ?_); (case side1 => repeat (with_reducible exact HI0.out)); (case side2 => repeat (with_reducible exact HB.out)); rintro e w25 ⟨rfl, hi, hb, hk⟩; refine ⟨_, rfl, ?_⟩; replace BKz0 := mk (KeepBut.blk hk (g' := gbz0) (o := .cells #[.int .i64 0, .int .i64 0, .int .i64 0, .int .i64 0, .int .i64 0, .slice none 0 0] 43 (0, 0)) BKz0.out NBz2.out (by simp)); replace BKz1 := mk (KeepBut.blk hk (g' := gbz1) (o := .cells #[.int .i64 tz0, .int .i64 0, .int .i64 0, .int .i64 0, .int .i64 0, .slice none 0 0] 43 (0, 0)) BKz1.out NBz4.out (by simp)); replace HK := mk (KeepBut.trans HK.out hk (.inl rfl)); replace HB := mk (hb); replace HI0 := mk (hi); (try clear hb); (try clear hk); (try clear hi); have hnc26 := NBz0.out; have hnb27 := NBz4.out; have hnc27 := NBz1.out; obtain ⟨hcz28_0, hcz28_1, hcz28_2, hcz28_3, hcz28_4, -, -, hfz28_1, hfz28_2, hfz28_3, -⟩ := c6 BKz1.out; have hfz28_4 := blk_frozen BKz1.out 4) | ((with_reducible refine gate_callee (f := 87) rfl ?_); refine goesL_ (some 26) rfl rfl Try.func87 (by kernel_rfl) rfl #[.pointer (some ⟨g, 0, none⟩), .int .i64 a1] rfl (by (try simp only [List.map_toArray, List.map_cons, List.map_nil]); rfl) ?_; (with_reducible refine (spec_anyPixel.calls kj3 g s0_0 tz6 a1 tz7 tz9 w0 _ ?side1 ?side2 A24.out).mono ?_); (case side1 => repeat (with_reducible first | exact HI0.out | refine IsS90.far ?_ NBz1.out _)); (case side2 => repeat (with_reducible first | exact HB.out | refine below_set ?_ GEz0.out)); rintro e w29 ⟨vz1, rfl, ho0, hi, hb, hk⟩; refine ⟨_, rfl, ?_⟩; replace BKz0 := mk (KeepBut.blk hk (g' := gbz0) (o := .cells #[.int .i64 0, .int .i64 0, .int .i64 0, .int .i64 0, .int .i64 0, .slice none 0 0] 43 (0, 0)) (by refine blk_far ?_ NBz0.out _; refine blk_far ?_ NBz0.out _; refine blk_far ?_ NBz0.out _; refine blk_far ?_ NBz0.out _; exact BKz0.out) NBz2.out (by simp)); replace BKz1 := mk (KeepBut.blk hk (g' := gbz1) (o := .cells #[.int .i64 tz0, .int .i64 tz1, .int .i64 tz2, .int .i64 tz3, .int .i64 tz5, .slice none 0 0] 43 (0, 0)) (by refine blk_put (cs := #[.int .i64 tz0, .int .i64 tz1, .int .i64 tz2, .int .i64 tz3, .int .i64 0, .slice none 0 0]) ?_ 4 _ rfl; refine blk_put (cs := #[.int .i64 tz0, .int .i64 tz1, .int .i64 tz2, .int .i64 0, .int .i64 0, .slice none 0 0]) ?_ 3 _ rfl; refine blk_put (cs := #[.int .i64 tz0, .int .i64 tz1, .int .i64 0, .int .i64 0, .int .i64 0, .slice none 0 0]) ?_ 2 _ rfl; refine blk_put (cs := #[.int .i64 tz0, .int .i64 0, .int .i64 0, .int .i64 0, .int .i64 0, .slice none 0 0]) ?_ 1 _ rfl; exact BKz1.out) NBz4.out (by simp)); have HOz1 := mk (Kd.Q_lower ho0 (keep_size (w := w) (g := g) (row := none) (by repeat (with_reducible first | exact HK.out | refine keep_far ?_ GWz0.out _)))); replace HK := mk (KeepBut.trans (by repeat (with_reducible first | exact HK.out | refine keep_far ?_ GWz0.out _)) hk (.inl rfl)); replace HB := mk (hb); replace HI0 := mk (hi); (try clear hb); (try clear hk); (try clear hi); (try clear ho0); obtain ⟨Ao30, co30, eo30, _⟩ := Kd.Q_slice HOz1.out; subst eo30; obtain ⟨hcz31_0, hcz31_1, hcz31_2, hcz31_3, hcz31_4, hcz31_5, -, -, -, -, -, hfz31_5⟩ := c6 BKz1.out; have hnb32 := NBz2.out; have hnc32 := NBz3.out; obtain ⟨hcz33_0, hcz33_1, hcz33_2, hcz33_3, hcz33_4, hcz33_5, hfz33_0, hfz33_1, hfz33_2, hfz33_3, hfz33_4, hfz33_5⟩ := c6 BKz0.out))
     refine bodyPost_ret (results_cell_row rfl _ _ gbz0 43 #[.int .i64 tz0, .int .i64 tz1, .int .i64 tz2, .int .i64 tz3, .int .i64 tz5, .slice Ao30 tz7.length co30] (0, 0) _ rfl (by refine blk_put (cs := #[.int .i64 tz0, .int .i64 tz1, .int .i64 tz2, .int .i64 tz3, .int .i64 tz5, .slice none 0 0]) ?_ 5 _ rfl; refine blk_put (cs := #[.int .i64 tz0, .int .i64 tz1, .int .i64 tz2, .int .i64 tz3, .int .i64 0, .slice none 0 0]) ?_ 4 _ rfl; refine blk_put (cs := #[.int .i64 tz0, .int .i64 tz1, .int .i64 tz2, .int .i64 0, .int .i64 0, .slice none 0 0]) ?_ 3 _ rfl; refine blk_put (cs := #[.int .i64 tz0, .int .i64 tz1, .int .i64 0, .int .i64 0, .int .i64 0, .slice none 0 0]) ?_ 2 _ rfl; refine blk_put (cs := #[.int .i64 tz0, .int .i64 0, .int .i64 0, .int .i64 0, .int .i64 0, .slice none 0 0]) ?_ 1 _ rfl; refine blk_put (cs := #[.int .i64 0, .int .i64 0, .int .i64 0, .int .i64 0, .int .i64 0, .slice none 0 0]) ?_ 0 _ rfl; refine blk_far ?_ NBz0.out _; exact BKz0.out) Try.underlying43 rfl (by kernel_rfl)) rfl ?_
     exact ⟨_, by rfl, by exact Kd.Q_mono (Kd.Q_far (p := ⟨gbz0, 5, none⟩) (Kd.Q_far (p := ⟨gbz0, 4, none⟩) (Kd.Q_far (p := ⟨gbz0, 3, none⟩) (Kd.Q_far (p := ⟨gbz0, 2, none⟩) (Kd.Q_far (p := ⟨gbz0, 1, none⟩) (Kd.Q_far (p := ⟨gbz0, 0, none⟩) (Kd.Q_far (p := ⟨gbz1, 5, none⟩) (Kd.Q_types (Kd.Q_types HOz1.out BKz1.out (by decide)) BKz0.out (by decide)) (fun _ hk => hk.1.2) (.slice Ao30 tz7.length co30)) (fun _ hk => hk.2) (.int .i64 tz0)) (fun _ hk => hk.2) (.int .i64 tz1)) (fun _ hk => hk.2) (.int .i64 tz2)) (fun _ hk => hk.2) (.int .i64 tz3)) (fun _ hk => hk.2) (.int .i64 tz5)) (fun _ hk => hk.2) (.slice Ao30 tz7.length co30)) (fun _ hk => trivial), by repeat (with_reducible first | exact HI0.out | refine IsS90.far ?_ NBz3.out _ | refine IsS90.far ?_ NBz1.out _), by repeat (with_reducible first | exact HB.out | refine below_set ?_ GEz1.out | refine below_set ?_ GEz0.out), by repeat (with_reducible first | exact HK.out | refine keep_far ?_ GWz1.out _ | refine keep_far ?_ GWz0.out _)⟩
    rw [if_neg c23] at H
    have c23b0 : (tz0 == 4) = false := beq_eq_false_iff_ne.mpr c23
    simp only [Option.some.injEq, Prod.mk.injEq] at H
    obtain ⟨rfl, rfl, rfl, rfl, rfl, rfl, rfl⟩ := H
    go_wp2_with (first | ((with_reducible refine gate_callee (f := 86) rfl ?_); refine goesL_ (some 19) rfl rfl Try.func86 (by kernel_rfl) rfl #[.pointer (some ⟨g, 0, none⟩)] rfl (by (try simp only [List.map_toArray, List.map_cons, List.map_nil]); rfl) ?_; (with_reducible refine (spec_anyBox.calls kj3 g s0_0 tz4 tz1 tz2 tz3 tz5 tz6 w0 _ ?side1 ?side2 A22.out).mono ?_); (case side1 => repeat (with_reducible exact HI0.out)); (case side2 => repeat (with_reducible exact HB.out)); rintro e w34 ⟨rfl, hi, hb, hk⟩; refine ⟨_, rfl, ?_⟩; replace BKz0 := mk (KeepBut.blk hk (g' := gbz0) (o := .cells #[.int .i64 0, .int .i64 0, .int .i64 0, .int .i64 0, .int .i64 0, .slice none 0 0] 43 (0, 0)) BKz0.out NBz2.out (by simp)); replace BKz1 := mk (KeepBut.blk hk (g' := gbz1) (o := .cells #[.int .i64 tz0, .int .i64 0, .int .i64 0, .int .i64 0, .int .i64 0, .slice none 0 0] 43 (0, 0)) BKz1.out NBz4.out (by simp)); replace HK := mk (KeepBut.trans HK.out hk (.inl rfl)); replace HB := mk (hb); replace HI0 := mk (hi); (try clear hb); (try clear hk); (try clear hi); have hnc35 := NBz0.out; have hnb36 := NBz4.out; have hnc36 := NBz1.out; obtain ⟨hcz37_0, hcz37_1, hcz37_2, hcz37_3, hcz37_4, hcz37_5, -, hfz37_1, hfz37_2, hfz37_3, hfz37_4, -⟩ := c6 BKz1.out; have hnb38 := NBz2.out; have hnc38 := NBz3.out; obtain ⟨hcz39_0, hcz39_1, hcz39_2, hcz39_3, hcz39_4, hcz39_5, hfz39_0, hfz39_1, hfz39_2, hfz39_3, hfz39_4, hfz39_5⟩ := c6 BKz0.out))
    refine bodyPost_ret (results_cell_row rfl _ _ gbz0 43 #[.int .i64 tz0, .int .i64 tz1, .int .i64 tz2, .int .i64 tz3, .int .i64 tz5, .slice none 0 0] (0, 0) _ rfl (by refine blk_put (cs := #[.int .i64 tz0, .int .i64 tz1, .int .i64 tz2, .int .i64 tz3, .int .i64 tz5, .slice none 0 0]) ?_ 5 _ rfl; refine blk_put (cs := #[.int .i64 tz0, .int .i64 tz1, .int .i64 tz2, .int .i64 tz3, .int .i64 0, .slice none 0 0]) ?_ 4 _ rfl; refine blk_put (cs := #[.int .i64 tz0, .int .i64 tz1, .int .i64 tz2, .int .i64 0, .int .i64 0, .slice none 0 0]) ?_ 3 _ rfl; refine blk_put (cs := #[.int .i64 tz0, .int .i64 tz1, .int .i64 0, .int .i64 0, .int .i64 0, .slice none 0 0]) ?_ 2 _ rfl; refine blk_put (cs := #[.int .i64 tz0, .int .i64 0, .int .i64 0, .int .i64 0, .int .i64 0, .slice none 0 0]) ?_ 1 _ rfl; refine blk_put (cs := #[.int .i64 0, .int .i64 0, .int .i64 0, .int .i64 0, .int .i64 0, .slice none 0 0]) ?_ 0 _ rfl; refine blk_far ?_ NBz0.out _; refine blk_far ?_ NBz0.out _; refine blk_far ?_ NBz0.out _; refine blk_far ?_ NBz0.out _; exact BKz0.out) Try.underlying43 rfl (by kernel_rfl)) rfl ?_
    exact ⟨_, by rfl, Kd.Q_of_R (by exact Kd.R_nil _ _ _ _ _), by repeat (with_reducible first | exact HI0.out | refine IsS90.far ?_ NBz3.out _ | refine IsS90.far ?_ NBz1.out _), by repeat (with_reducible first | exact HB.out | refine below_set ?_ GEz1.out | refine below_set ?_ GEz0.out), by repeat (with_reducible first | exact HK.out | refine keep_far ?_ GWz1.out _ | refine keep_far ?_ GWz0.out _)⟩
   replace c21 := Bool.eq_false_iff.mpr c21
   subst c21
   have H1 : (if tz0 = 4 then ((spec_anyPixel.f kj3 s0_0 tz4 a1).bind fun btz3 => (some (tz0, 0, 0, 0, 0, btz3.1, btz3.2))) else (some (tz0, 0, 0, 0, 0, ([] : List Int), tz4))) = some (r1, r2, r3, r4, r5, r6, r7) := by rw [if_neg (show ¬ (false = true) by decide)] at H; exact H
   clear H
   have H := H1
   clear H1
   by_cases c40 : tz0 = 4
   ·rw [if_pos c40] at H
    have c40b0 : (tz0 == 4) = true := beq_iff_eq.mpr c40
    clear c40
    replace H := Option.bind_eq_some_iff.mp H
    obtain ⟨⟨tz8, tz10⟩, A410, H⟩ := H
    replace H : (some (tz0, 0, 0, 0, 0, tz8, tz10)) = some (r1, r2, r3, r4, r5, r6, r7) := H
    have A41 := mk A410
    clear A410
    simp only [Option.some.injEq, Prod.mk.injEq] at H
    obtain ⟨rfl, rfl, rfl, rfl, rfl, rfl, rfl⟩ := H
    have hnc42 := NBz0.out
    have hnb43 := NBz4.out
    have hnc43 := NBz1.out
    have hcz44_0 : wc.cell? ⟨gbz1, 0, none⟩ = some (.int .i64 tz0) := (blk_cell BKz1.out 0).trans rfl
    go_wp2_with (first | ((with_reducible refine gate_callee (f := 87) rfl ?_); refine goesL_ (some 26) rfl rfl Try.func87 (by kernel_rfl) rfl #[.pointer (some ⟨g, 0, none⟩), .int .i64 a1] rfl (by (try simp only [List.map_toArray, List.map_cons, List.map_nil]); rfl) ?_; (with_reducible refine (spec_anyPixel.calls kj3 g s0_0 tz4 a1 tz8 tz10 w0 _ ?side1 ?side2 A41.out).mono ?_); (case side1 => repeat (with_reducible exact HI0.out)); (case side2 => repeat (with_reducible exact HB.out)); rintro e w45 ⟨vz2, rfl, ho0, hi, hb, hk⟩; refine ⟨_, rfl, ?_⟩; replace BKz0 := mk (KeepBut.blk hk (g' := gbz0) (o := .cells #[.int .i64 0, .int .i64 0, .int .i64 0, .int .i64 0, .int .i64 0, .slice none 0 0] 43 (0, 0)) BKz0.out NBz2.out (by simp)); replace BKz1 := mk (KeepBut.blk hk (g' := gbz1) (o := .cells #[.int .i64 tz0, .int .i64 0, .int .i64 0, .int .i64 0, .int .i64 0, .slice none 0 0] 43 (0, 0)) BKz1.out NBz4.out (by simp)); have HOz2 := mk (Kd.Q_lower ho0 (keep_size (w := w) (g := g) (row := none) HK.out)); replace HK := mk (KeepBut.trans HK.out hk (.inl rfl)); replace HB := mk (hb); replace HI0 := mk (hi); (try clear hb); (try clear hk); (try clear hi); (try clear ho0); obtain ⟨Ao46, co46, eo46, _⟩ := Kd.Q_slice HOz2.out; subst eo46; obtain ⟨hcz47_0, hcz47_1, hcz47_2, hcz47_3, hcz47_4, hcz47_5, -, -, -, -, -, hfz47_5⟩ := c6 BKz1.out; have hnb48 := NBz2.out; have hnc48 := NBz3.out; obtain ⟨hcz49_0, hcz49_1, hcz49_2, hcz49_3, hcz49_4, hcz49_5, hfz49_0, hfz49_1, hfz49_2, hfz49_3, hfz49_4, hfz49_5⟩ := c6 BKz0.out))
    refine bodyPost_ret (results_cell_row rfl _ _ gbz0 43 #[.int .i64 tz0, .int .i64 0, .int .i64 0, .int .i64 0, .int .i64 0, .slice Ao46 tz8.length co46] (0, 0) _ rfl (by refine blk_put (cs := #[.int .i64 tz0, .int .i64 0, .int .i64 0, .int .i64 0, .int .i64 0, .slice none 0 0]) ?_ 5 _ rfl; refine blk_put (cs := #[.int .i64 tz0, .int .i64 0, .int .i64 0, .int .i64 0, .int .i64 0, .slice none 0 0]) ?_ 4 _ rfl; refine blk_put (cs := #[.int .i64 tz0, .int .i64 0, .int .i64 0, .int .i64 0, .int .i64 0, .slice none 0 0]) ?_ 3 _ rfl; refine blk_put (cs := #[.int .i64 tz0, .int .i64 0, .int .i64 0, .int .i64 0, .int .i64 0, .slice none 0 0]) ?_ 2 _ rfl; refine blk_put (cs := #[.int .i64 tz0, .int .i64 0, .int .i64 0, .int .i64 0, .int .i64 0, .slice none 0 0]) ?_ 1 _ rfl; refine blk_put (cs := #[.int .i64 0, .int .i64 0, .int .i64 0, .int .i64 0, .int .i64 0, .slice none 0 0]) ?_ 0 _ rfl; refine blk_far ?_ NBz0.out _; exact BKz0.out) Try.underlying43 rfl (by kernel_rfl)) rfl ?_
    exact ⟨_, by rfl, by exact Kd.Q_mono (Kd.Q_far (p := ⟨gbz0, 5, none⟩) (Kd.Q_far (p := ⟨gbz0, 4, none⟩) (Kd.Q_far (p := ⟨gbz0, 3, none⟩) (Kd.Q_far (p := ⟨gbz0, 2, none⟩) (Kd.Q_far (p := ⟨gbz0, 1, none⟩) (Kd.Q_far (p := ⟨gbz0, 0, none⟩) (Kd.Q_far (p := ⟨gbz1, 5, none⟩) (Kd.Q_types (Kd.Q_types HOz2.out BKz1.out (by decide)) BKz0.out (by decide)) (fun _ hk => hk.1.2) (.slice Ao46 tz8.length co46)) (fun _ hk => hk.2) (.int .i64 tz0)) (fun _ hk => hk.2) (.int .i64 0)) (fun _ hk => hk.2) (.int .i64 0)) (fun _ hk => hk.2) (.int .i64 0)) (fun _ hk => hk.2) (.int .i64 0)) (fun _ hk => hk.2) (.slice Ao46 tz8.length co46)) (fun _ hk => trivial), by repeat (with_reducible first | exact HI0.out | refine IsS90.far ?_ NBz3.out _ | refine IsS90.far ?_ NBz1.out _), by repeat (with_reducible first | exact HB.out | refine below_set ?_ GEz1.out | refine below_set ?_ GEz0.out), by repeat (with_reducible first | exact HK.out | refine keep_far ?_ GWz1.out _ | refine keep_far ?_ GWz0.out _)⟩
   rw [if_neg c40] at H
   have c40b0 : (tz0 == 4) = false := beq_eq_false_iff_ne.mpr c40
   simp only [Option.some.injEq, Prod.mk.injEq] at H
   obtain ⟨rfl, rfl, rfl, rfl, rfl, rfl, rfl⟩ := H
   obtain ⟨hcz52_0, hcz52_1, hcz52_2, hcz52_3, hcz52_4, hcz52_5, -⟩ := c6 BKz1.out
   obtain ⟨hcz54_0, hcz54_1, hcz54_2, hcz54_3, hcz54_4, hcz54_5, hfz54_0, hfz54_1, hfz54_2, hfz54_3, hfz54_4, hfz54_5⟩ := c6 BKz0.out
   go_wp2
   refine bodyPost_ret (results_cell_row rfl _ _ gbz0 43 #[.int .i64 tz0, .int .i64 0, .int .i64 0, .int .i64 0, .int .i64 0, .slice none 0 0] (0, 0) _ rfl (by refine blk_put (cs := #[.int .i64 tz0, .int .i64 0, .int .i64 0, .int .i64 0, .int .i64 0, .slice none 0 0]) ?_ 5 _ rfl; refine blk_put (cs := #[.int .i64 tz0, .int .i64 0, .int .i64 0, .int .i64 0, .int .i64 0, .slice none 0 0]) ?_ 4 _ rfl; refine blk_put (cs := #[.int .i64 tz0, .int .i64 0, .int .i64 0, .int .i64 0, .int .i64 0, .slice none 0 0]) ?_ 3 _ rfl; refine blk_put (cs := #[.int .i64 tz0, .int .i64 0, .int .i64 0, .int .i64 0, .int .i64 0, .slice none 0 0]) ?_ 2 _ rfl; refine blk_put (cs := #[.int .i64 tz0, .int .i64 0, .int .i64 0, .int .i64 0, .int .i64 0, .slice none 0 0]) ?_ 1 _ rfl; refine blk_put (cs := #[.int .i64 0, .int .i64 0, .int .i64 0, .int .i64 0, .int .i64 0, .slice none 0 0]) ?_ 0 _ rfl; exact BKz0.out) Try.underlying43 rfl (by kernel_rfl)) rfl ?_
   exact ⟨_, by rfl, Kd.Q_of_R (by exact Kd.R_nil _ _ _ _ _), by repeat (with_reducible first | exact HI0.out | refine IsS90.far ?_ NBz3.out _), by repeat (with_reducible first | exact HB.out | refine below_set ?_ GEz1.out), by repeat (with_reducible first | exact HK.out | refine keep_far ?_ GWz1.out _)⟩


def spec_anySteps.l0 : Nat → Int → List S43 → Int → List Int → Int → Option ((List S43) × Int)
 | 0, _, _, _, _, _ => none
 | k + 1, x1, x5, x6, x1000, x1001 => if x6 > 0 then ((spec_reader_pick.f k x1000 x1001 3).bind fun btz3 => (if btz3.1 > 0 then ((spec_reader_pick.f k x1000 btz3.2 3).bind fun btz2 => (if x5.length < 2199023255552 then (spec_anySteps.l0 k x1 (x5 ++ [(⟨btz2.1, (⟨0, 0, 0, 0⟩ : S41), ([] : List Int)⟩ : S43)]) (wrap64 (x6 - 1)) x1000 btz2.2) else none)) else ((spec_anyStep.f k x1000 btz3.2 x1).bind fun btz0 => (if x5.length < 2199023255552 then (spec_anySteps.l0 k x1 (x5 ++ [(⟨btz0.1, (⟨btz0.2.1, btz0.2.2.1, btz0.2.2.2.1, btz0.2.2.2.2.1⟩ : S41), btz0.2.2.2.2.2.1⟩ : S43)]) (wrap64 (x6 - 1)) x1000 btz0.2.2.2.2.2.2) else none)))) else (some (x5, x1001))
def spec_anySteps.f (k : Nat) (s0_0 : List Int) (s0_1 : Int) (a1 : Int) : Option ((List S43) × Int) := (spec_reader_one.f k s0_0 s0_1 ([2, 4, 6, 8, 1, 0, 12, 13] : List Int)).bind fun btz1 => (spec_anySteps.l0 k a1 (([] : List S43)) btz1.1 s0_0 btz1.2)
theorem spec_anySteps.calls (k : Nat) (g : Nat) (s0_0 : List Int) (s0_1 : Int) (a1 : Int) (r1 : List S43) (r2 : Int) (w0 w : World) (hI : IsS90 w0 w g s0_0 s0_1) (hB : Below w0.heap.size w0 w) (h : spec_anySteps.f k s0_0 s0_1 a1 = some (r1, r2)) :
  Calls Try.prog 66 #[.pointer (some ⟨g, 0, none⟩), .int .i64 a1] w fun e w' => ∃ v0_ : Value, e = .returned v0_ ∧ Kd.N k43 43 w' w.heap.size (fun k_ => (w.heap.size ≤ k_)) v0_ r1 ∧ IsS90 w0 w' g s0_0 r2 ∧ Below w0.heap.size w0 w' ∧ KeepBut w w' g none := by
 have hu43 := Try.underlying43
 have HI0 := mk hI
 have HK := mk (KeepBut.refl w g none)
 have HL := mk hB.size
 clear hI
 have HW0 := mk hB.size
 have HB := mk hB
 clear hB
 have H : ((spec_reader_one.f k s0_0 s0_1 ([2, 4, 6, 8, 1, 0, 12, 13] : List Int)).bind fun btz1 => (spec_anySteps.l0 k a1 (([] : List S43)) btz1.1 s0_0 btz1.2)) = some (r1, r2) := h
 clear h
 obtain ⟨yz0, hyz0⟩ : ∃ y_ : List (S43), y_ = (([] : List S43)) := ⟨_, rfl⟩
 replace H : ((spec_reader_one.f k s0_0 s0_1 ([2, 4, 6, 8, 1, 0, 12, 13] : List Int)).bind fun btz1 => (spec_anySteps.l0 k a1 yz0 btz1.1 s0_0 btz1.2)) = some (r1, r2) := by (rw [hyz0]; with_reducible exact H)
 have Nyz0 := mk hyz0
 clear hyz0
 obtain ⟨yz1, hyz1⟩ : ∃ y_ : List Int, y_ = ([2, 4, 6, 8, 1, 0, 12, 13] : List Int) := ⟨_, rfl⟩
 replace H : ((spec_reader_one.f k s0_0 s0_1 yz1).bind fun btz1 => (spec_anySteps.l0 k a1 yz0 btz1.1 s0_0 btz1.2)) = some (r1, r2) := by (rw [hyz1]; with_reducible exact H)
 have Nyz1 := mk hyz1
 clear hyz1
 replace H := Option.bind_eq_some_iff.mp H
 obtain ⟨⟨tz11, tz12⟩, A30, H⟩ := H
 replace H : (spec_anySteps.l0 k a1 yz0 tz11 s0_0 tz12) = some (r1, r2) := H
 have A3 := mk A30
 clear A30
 have H' := mk H
 clear H
 go_enter Try.func66, Try.ntmps66
 go_wp2_with (first | ((with_reducible refine gate_dst (N := 7) rfl ?_); refine Kd.N_lit k43 _ 43 ?hg (N' := 7) ?hd (xs := ([] : List S43)) (inner := []) (ok := (fun k_ => (w.heap.size ≤ k_) ∧ k_ ≠ g)) (okp := (fun k_ => (w.heap.size ≤ k_) ∧ k_ ≠ g)) ?hr ?hp (fun _ hk => hk) ((show ∀ k_, w.heap.size ≤ k_ → (fun k_ => (w.heap.size ≤ k_) ∧ k_ ≠ g) k_ from fun k_ hk => ⟨(Nat.le_trans (keep_size (w := w) (g := g) (row := none) HK.out) hk), IsS90.fresh HI0.out k_ hk⟩) _ (Nat.le_refl _)) (Below.refl _ _) (Nat.le_refl _) (by simp) ?_; (case hd => rfl); (case hg => rfl); (case hr => (go_simp; done)); (case hp => exact (Reps.none _ _)); intro vz0 w4 ho5 hb hg_ hnew_; clear hg_ hnew_; (rw [← Nyz0.out] at ho5); have HOz0 := mk (Kd.N_lower ho5 (keep_size (w := w) (g := g) (row := none) HK.out)); replace HI0 := mk (IsS90.below HI0.out hb); replace HK := mk (KeepBut.trans HK.out (KeepBut.of_below hb g none) (.inl rfl)); replace HB := mk (below_step HB.out hb); clear hb ho5) | ((with_reducible refine gate_dst (N := 9) rfl ?_); refine Kd.R_lit (Kd.int .i64) _ 3 ?hg (N := 9) ?hd (xs := ([2, 4, 6, 8, 1, 0, 12, 13] : List Int)) (inner := [.int .i64 2, .int .i64 4, .int .i64 6, .int .i64 8, .int .i64 1, .int .i64 0, .int .i64 12, .int .i64 13]) (ok := fun _ => True) (okp := fun _ => True) ?hr ?hp (fun _ hk => hk) trivial (Below.refl _ _) (Nat.le_refl _) (by simp) ?_; (case hd => rfl); (case hg => rfl); (case hr => (go_simp; done)); (case hp => exact (Reps.one (show Kd.M (Kd.int .i64) _ _ _ 2 [.int .i64 2] from rfl) (Reps.one (show Kd.M (Kd.int .i64) _ _ _ 4 [.int .i64 4] from rfl) (Reps.one (show Kd.M (Kd.int .i64) _ _ _ 6 [.int .i64 6] from rfl) (Reps.one (show Kd.M (Kd.int .i64) _ _ _ 8 [.int .i64 8] from rfl) (Reps.one (show Kd.M (Kd.int .i64) _ _ _ 1 [.int .i64 1] from rfl) (Reps.one (show Kd.M (Kd.int .i64) _ _ _ 0 [.int .i64 0] from rfl) (Reps.one (show Kd.M (Kd.int .i64) _ _ _ 12 [.int .i64 12] from rfl) (Reps.one (show Kd.M (Kd.int .i64) _ _ _ 13 [.int .i64 13] from rfl) (Reps.none _ _)))))))))); intro vz1 w6 ho7 hb hg_ hnew_; clear hg_ hnew_; (rw [← Nyz1.out] at ho7); replace HOz0 := mk (Kd.N_elder' HOz0.out (Kd.R_base ho7) hb); have HOz1 := mk (Kd.R_lower (Kd.R_newM (M := fun k_ => (w.heap.size ≤ k_)) ho7 (keep_size (w := w) (g := g) (row := none) HK.out) (fun k_ h_ => h_)) (keep_size (w := w) (g := g) (row := none) HK.out)); replace HI0 := mk (IsS90.below HI0.out hb); replace HK := mk (KeepBut.trans HK.out (KeepBut.of_below hb g none) (.inl rfl)); replace HB := mk (below_step HB.out hb); clear hb ho7; obtain ⟨Ao8, co8, eo8⟩ := Kd.R_slice HOz1.out; subst eo8) | ((with_reducible refine gate_callee (f := 85) rfl ?_); refine goesL_ (some 10) rfl rfl Try.func85 (by kernel_rfl) rfl #[.pointer (some ⟨g, 0, none⟩), .slice Ao8 yz1.length co8] rfl (by (try simp only [List.map_toArray, List.map_cons, List.map_nil]); rfl) ?_; (with_reducible refine (spec_reader_one.calls k g s0_0 s0_1 _ _ yz1 tz11 tz12 w0 _ ?side1 ?side2 ?side3 ?side4 ?side5 A3.out).mono ?_); (case side1 => repeat (with_reducible exact HI0.out)); (case side2 => repeat (with_reducible exact HB.out)); (case side3 => repeat (exact (Kd.R_reads' HOz1.out).2.2)); (case side4 => exact (Kd.R_reads' HOz1.out).2.1); (case side5 => exact far_slice (IsS90.own_ne HI0.out HOz1.out (by decide))); rintro e w9 ⟨rfl, hi, hb, hk⟩; refine ⟨_, rfl, ?_⟩; have n0_ := mk (Kd.N_mono (Kd.N_keep (Kd.N_mono (ok := fun k_ => (((w.heap.size ≤ k_) ∧ k_ ≠ g) ∧ some k_ ≠ (.slice Ao8 yz1.length co8 : Value).ownBlock)) HOz0.out (fun k_ hk_ => (⟨hk_, hk_.1.2⟩ : _ ∧ k_ ≠ g))) hk (fun _ h => h.2)) (fun _ h => h.1)); have n2_ := mk (KeepBut.trans HK.out hk (.inl rfl)); have n3_ := mk (hb); have n4_ := mk (hi); clear HOz0; clear HOz1; clear HK; clear HB; clear HI0; have HOz0 := n0_; have HK := n2_; have HB := n3_; have HI0 := n4_; (try clear hb); (try clear hk); (try clear hi)))
 go_loopg [5, 6] k (fun kq v5 v6 w' => ∃ (x5_1 : List S43) (x6_1 : Int) (x1001_1 : Int), v6 = .int .i64 x6_1 ∧ Aside0 (spec_anySteps.l0 kq a1 x5_1 x6_1 s0_0 x1001_1 = some (r1, r2)) ∧ Aside0 (kq ≤ k) ∧ Aside0 (Kd.N k43 43 w' w.heap.size (fun k_ => (w.heap.size ≤ k_) ∧ k_ ≠ g) v5 x5_1) ∧ Aside0 (IsS90 w0 w' g s0_0 x1001_1) ∧ Aside0 (KeepBut w w' g none) ∧ Aside0 (Below w0.heap.size w0 w'))
 case atStart => exact ⟨(yz0), (tz11), (tz12), (by rfl), H', ⟨Nat.le_refl _⟩, ⟨by exact Kd.N_mono HOz0.out (fun _ hk => ⟨hk.1.1, hk.1.2⟩)⟩, HI0, HK, HB⟩
 case round =>
  clear H'
  obtain ⟨x5_1, x6_1, x1001_1, rfl, HA, HK1, HO_5, HI0, HK, HB⟩ := hrel
  cases gk with
  | zero => exact absurd HA.out (by simp [spec_anySteps.l0])
  | succ k1 =>
   have H := HA.out
   clear HA
   simp only [spec_anySteps.l0] at H
   by_cases c10 : x6_1 > 0
   ·rw [if_pos c10] at H
    have c10b0 : decide (0 < x6_1) = true := decide_eq_true c10
    clear c10
    replace H := Option.bind_eq_some_iff.mp H
    obtain ⟨⟨tz0, tz1⟩, A110, H⟩ := H
    replace H : (if tz0 > 0 then ((spec_reader_pick.f k1 s0_0 tz1 3).bind fun btz2 => (if x5_1.length < 2199023255552 then (spec_anySteps.l0 k1 a1 (x5_1 ++ [(⟨btz2.1, (⟨0, 0, 0, 0⟩ : S41), ([] : List Int)⟩ : S43)]) (wrap64 (x6_1 - 1)) s0_0 btz2.2) else none)) else ((spec_anyStep.f k1 s0_0 tz1 a1).bind fun btz0 => (if x5_1.length < 2199023255552 then (spec_anySteps.l0 k1 a1 (x5_1 ++ [(⟨btz0.1, (⟨btz0.2.1, btz0.2.2.1, btz0.2.2.2.1, btz0.2.2.2.2.1⟩ : S41), btz0.2.2.2.2.2.1⟩ : S43)]) (wrap64 (x6_1 - 1)) s0_0 btz0.2.2.2.2.2.2) else none))) = some (r1, r2) := H
    have A11 := mk A110
    clear A110
    by_cases c12 : tz0 > 0
    ·rw [if_pos c12] at H
     have c12b0 : decide (0 < tz0) = true := decide_eq_true c12
     clear c12
     replace H := Option.bind_eq_some_iff.mp H
     obtain ⟨⟨tz2, tz9⟩, A130, H⟩ := H
     replace H : (if x5_1.length < 2199023255552 then (spec_anySteps.l0 k1 a1 (x5_1 ++ [(⟨tz2, (⟨0, 0, 0, 0⟩ : S41), ([] : List Int)⟩ : S43)]) (wrap64 (x6_1 - 1)) s0_0 tz9) else none) = some (r1, r2) := H
     have A13 := mk A130
     clear A130
     by_cases c14 : x5_1.length < 2199023255552
     ·rw [if_pos c14] at H
      have LMc14 := mk c14
      clear c14
      obtain ⟨yz2, hyz2⟩ : ∃ y_ : List (S43), y_ = (x5_1 ++ [(⟨tz2, (⟨0, 0, 0, 0⟩ : S41), ([] : List Int)⟩ : S43)]) := ⟨_, rfl⟩
      replace H : (spec_anySteps.l0 k1 a1 yz2 (wrap64 (x6_1 - 1)) s0_0 tz9) = some (r1, r2) := by (rw [hyz2]; with_reducible exact H)
      have Nyz2 := mk hyz2
      clear hyz2
      have H' := mk H
      clear H
      go_wp2_with (first | ((with_reducible refine gate_callee (f := 90) rfl ?_); refine goesL_ (some 16) rfl rfl Try.func90 (by kernel_rfl) rfl #[.pointer (some ⟨g, 0, none⟩), .int .i64 3] rfl (by (try simp only [List.map_toArray, List.map_cons, List.map_nil]); rfl) ?_; (with_reducible refine (spec_reader_pick.calls k1 g s0_0 x1001_1 3 tz0 tz1 w0 _ ?side1 ?side2 A11.out).mono ?_); (case side1 => repeat (with_reducible exact HI0.out)); (case side2 => repeat (with_reducible exact HB.out)); rintro e w15 ⟨rfl, hi, hb, hk⟩; refine ⟨_, rfl, ?_⟩; replace HO_5 := mk (Kd.N_mono (Kd.N_keep (Kd.N_mono (ok := fun k_ => ((w.heap.size ≤ k_) ∧ k_ ≠ g)) HO_5.out (fun k_ hk_ => (⟨hk_, hk_.2⟩ : _ ∧ k_ ≠ g))) hk (fun _ h => h.2)) (fun _ h => h.1)); replace HK := mk (KeepBut.trans HK.out hk (.inl rfl)); replace HB := mk (hb); replace HI0 := mk (hi); (try clear hb); (try clear hk); (try clear hi)) | ((with_reducible refine gate_callee (f := 90) rfl ?_); refine goesL_ (some 20) rfl rfl Try.func90 (by kernel_rfl) rfl #[.pointer (some ⟨g, 0, none⟩), .int .i64 3] rfl (by (try simp only [List.map_toArray, List.map_cons, List.map_nil]); rfl) ?_; (with_reducible refine (spec_reader_pick.calls k1 g s0_0 tz1 3 tz2 tz9 w0 _ ?side1 ?side2 A13.out).mono ?_); (case side1 => repeat (with_reducible exact HI0.out)); (case side2 => repeat (with_reducible exact HB.out)); rintro e w16 ⟨rfl, hi, hb, hk⟩; refine ⟨_, rfl, ?_⟩; replace HO_5 := mk (Kd.N_mono (Kd.N_keep (Kd.N_mono (ok := fun k_ => ((w.heap.size ≤ k_) ∧ k_ ≠ g)) HO_5.out (fun k_ hk_ => (⟨hk_, hk_.2⟩ : _ ∧ k_ ≠ g))) hk (fun _ h => h.2)) (fun _ h => h.1)); replace HK := mk (KeepBut.trans HK.out hk (.inl rfl)); replace HB := mk (hb); replace HI0 := mk (hi); (try clear hb); (try clear hk); (try clear hi)) | ((with_reducible refine gate_builtin (b := .append) (xs := #[.tmp 18, .tmp 22]) rfl ?_); at_builtin; refine Kd.N_append k43 w.heap.size rfl (.tmp 18) (.tmp 22) 32 43 (.agg #[(.int .i64 0), (.int .i64 0), (.int .i64 0), (.int .i64 0), (.int .i64 0), (.slice none 0 0)]) 64 rfl Try.underlying32 info43 rfl (by decide) (by omega) u5 x5_1 (⟨tz2, (⟨0, 0, 0, 0⟩ : S41), ([] : List Int)⟩ : S43) [.int .i64 tz2, .int .i64 0, .int .i64 0, .int .i64 0, .int .i64 0, .slice none 0 0] (fun k_ => (w.heap.size ≤ k_) ∧ k_ ≠ g) (fun k_ => ((fun k_ => (w.heap.size ≤ k_) ∧ k_ ≠ g)) k_ ∧ some k_ ≠ (u5 : Value).ownBlock) rfl rfl ?aP (fun _ hk => hk) ?aF ?aO (Below.refl _ _) ?aS ?aL ?_; (case aP => exact (k43_mkF _ _ (⟨tz2, (⟨0, 0, 0, 0⟩ : S41), ([] : List Int)⟩ : S43) (Nat.le_refl _) (Kd.F_nil _ _ _))); (case aF => exact (fun k_ hk => ⟨(Nat.le_trans (keep_size (w := w) (g := g) (row := none) HK.out) hk), IsS90.fresh HI0.out k_ hk⟩)); (case aO => exact HO_5.out); (case aS => exact (keep_size (w := w) (g := g) (row := none) HK.out)); (case aL => have := LMc14.out; omega); intro vz2 w17 ho hb hg hat; rw [← Nyz2.out] at ho; have n0_ := mk (IsS90.grown HI0.out hg (IsS90.own_neN HI0.out HO_5.out (by decide))); have n1_ := mk (below_weaken HB.out HL.out hb); have n2_ := mk (KeepBut.trans HK.out (KeepBut.of_grown hg g) (Kd.N_base2 HO_5.out)); have n3_ := mk (ho); clear HI0; clear HB; clear HK; clear HO_5; have HI0 := n0_; have HB := n1_; have HK := n2_; have HOz3 := n3_; clear ho hb hg hat))
      go_roundg k1
      case measure => have := HK1.out; omega
      case rel => exact ⟨(yz2), (wrap64 (x6_1 - 1)), (tz9), (by rfl), H', ⟨by have := HK1.out; omega⟩, HOz3, HI0, HK, HB⟩
     rw [if_neg c14] at H
     exact absurd H (by simp)
    rw [if_neg c12] at H
    have c12b0 : decide (0 < tz0) = false := decide_eq_false c12
    clear c12
    replace H := Option.bind_eq_some_iff.mp H
    obtain ⟨⟨tz3, tz4, tz5, tz6, tz7, tz8, tz10⟩, A180, H⟩ := H
    replace H : (if x5_1.length < 2199023255552 then (spec_anySteps.l0 k1 a1 (x5_1 ++ [(⟨tz3, (⟨tz4, tz5, tz6, tz7⟩ : S41), tz8⟩ : S43)]) (wrap64 (x6_1 - 1)) s0_0 tz10) else none) = some (r1, r2) := H
    have A18 := mk A180
    clear A180
    by_cases c19 : x5_1.length < 2199023255552
    ·rw [if_pos c19] at H
     have LMc19 := mk c19
     clear c19
     obtain ⟨yz3, hyz3⟩ : ∃ y_ : List (S43), y_ = (x5_1 ++ [(⟨tz3, (⟨tz4, tz5, tz6, tz7⟩ : S41), tz8⟩ : S43)]) := ⟨_, rfl⟩
     replace H : (spec_anySteps.l0 k1 a1 yz3 (wrap64 (x6_1 - 1)) s0_0 tz10) = some (r1, r2) := by (rw [hyz3]; with_reducible exact H)
     have Nyz3 := mk hyz3
     clear hyz3
     have H' := mk H
     clear H
     go_wp2_with (first | ((with_reducible refine gate_callee (f := 90) rfl ?_); refine goesL_ (some 16) rfl rfl Try.func90 (by kernel_rfl) rfl #[.pointer (some ⟨g, 0, none⟩), .int .i64 3] rfl (by (try simp only [List.map_toArray, List.map_cons, List.map_nil]); rfl) ?_; (with_reducible refine (spec_reader_pick.calls k1 g s0_0 x1001_1 3 tz0 tz1 w0 _ ?side1 ?side2 A11.out).mono ?_); (case side1 => repeat (with_reducible exact HI0.out)); (case side2 => repeat (with_reducible exact HB.out)); rintro e w20 ⟨rfl, hi, hb, hk⟩; refine ⟨_, rfl, ?_⟩; replace HO_5 := mk (Kd.N_mono (Kd.N_keep (Kd.N_mono (ok := fun k_ => ((w.heap.size ≤ k_) ∧ k_ ≠ g)) HO_5.out (fun k_ hk_ => (⟨hk_, hk_.2⟩ : _ ∧ k_ ≠ g))) hk (fun _ h => h.2)) (fun _ h => h.1)); replace HK := mk (KeepBut.trans HK.out hk (.inl rfl)); replace HB := mk (hb); replace HI0 := mk (hi); (try clear hb); (try clear hk); (try clear hi)) | ((with_reducible refine gate_callee (f := 51) rfl ?_); refine goesL_ (some 27) rfl rfl Try.func51 (by kernel_rfl) rfl #[.pointer (some ⟨g, 0, none⟩), .int .i64 a1] rfl (by (try simp only [List.map_toArray, List.map_cons, List.map_nil]); rfl) ?_; (with_reducible refine (spec_anyStep.calls k1 g s0_0 tz1 a1 tz3 tz4 tz5 tz6 tz7 tz8 tz10 w0 _ ?side1 ?side2 A18.out).mono ?_); (case side1 => repeat (with_reducible exact HI0.out)); (case side2 => repeat (with_reducible exact HB.out)); rintro e w21 ⟨vz3, rfl, ho0, hi, hb, hk⟩; refine ⟨_, rfl, ?_⟩; replace HO_5 := mk (Kd.N_mono (Kd.N_told (Kd.N_oldK (Kd.N_mono (ok := fun k_ => ((w.heap.size ≤ k_) ∧ k_ ≠ g)) HO_5.out (fun k_ hk_ => (⟨hk_, hk_.2⟩ : _ ∧ k_ ≠ g))) hk) (Kd.Q_base ho0)) (fun _ h_ => h_.1)); have HOz2 := mk (Kd.Q_lower (Kd.Q_newM (M := fun k_ => (w.heap.size ≤ k_)) ho0 (keep_size (w := w) (g := g) (row := none) HK.out) (fun k_ h_ => h_)) (keep_size (w := w) (g := g) (row := none) HK.out)); replace HK := mk (KeepBut.trans HK.out hk (.inl rfl)); replace HB := mk (hb); replace HI0 := mk (hi); (try clear hb); (try clear hk); (try clear hi); (try clear ho0); obtain ⟨Ao23, co23, eo23, _⟩ := Kd.Q_slice HOz2.out; subst eo23) | ((with_reducible refine gate_builtin (b := .append) (xs := #[.tmp 24, .tmp 28]) rfl ?_); at_builtin; refine Kd.N_append k43 w.heap.size rfl (.tmp 24) (.tmp 28) 32 43 (.agg #[(.int .i64 0), (.int .i64 0), (.int .i64 0), (.int .i64 0), (.int .i64 0), (.slice none 0 0)]) 64 rfl Try.underlying32 info43 rfl (by decide) (by omega) u5 x5_1 (⟨tz3, (⟨tz4, tz5, tz6, tz7⟩ : S41), tz8⟩ : S43) [.int .i64 tz3, .int .i64 tz4, .int .i64 tz5, .int .i64 tz6, .int .i64 tz7, .slice Ao23 tz8.length co23] (fun k_ => (w.heap.size ≤ k_) ∧ k_ ≠ g) (fun k_ => ((fun k_ => (w.heap.size ≤ k_) ∧ k_ ≠ g)) k_ ∧ some k_ ≠ (u5 : Value).ownBlock) rfl rfl ?aP (fun _ hk => hk) ?aF ?aO (Below.refl _ _) ?aS ?aL ?_; (case aP => exact (k43_mkF _ _ (⟨tz3, (⟨tz4, tz5, tz6, tz7⟩ : S41), tz8⟩ : S43) (Kd.Q_reads' (Kd.Q_mono (ok' := (fun k_ => ((fun k_ => (w.heap.size ≤ k_) ∧ k_ ≠ g)) k_ ∧ some k_ ≠ (u5 : Value).ownBlock)) (IsS90.apartQ HI0.out (Kd.Q_apart' HOz2.out (Kd.N_typed HO_5.out) (by decide)) (by decide)) (fun k_ hk => ⟨⟨hk.1.1.1, hk.2⟩, hk.1.2⟩))).2.1 (Kd.Q_F (Kd.Q_mono (ok' := (fun k_ => ((fun k_ => (w.heap.size ≤ k_) ∧ k_ ≠ g)) k_ ∧ some k_ ≠ (u5 : Value).ownBlock)) (IsS90.apartQ HI0.out (Kd.Q_apart' HOz2.out (Kd.N_typed HO_5.out) (by decide)) (by decide)) (fun k_ hk => ⟨⟨hk.1.1.1, hk.2⟩, hk.1.2⟩))))); (case aF => exact (fun k_ hk => ⟨(Nat.le_trans (keep_size (w := w) (g := g) (row := none) HK.out) hk), IsS90.fresh HI0.out k_ hk⟩)); (case aO => exact (by exact Kd.N_mono HO_5.out (fun _ hk => ⟨hk.1.1, hk.1.2⟩))); (case aS => exact (keep_size (w := w) (g := g) (row := none) HK.out)); (case aL => have := LMc19.out; omega); intro vz4 w22 ho hb hg hat; rw [← Nyz3.out] at ho; have n0_ := mk (IsS90.grown HI0.out hg (IsS90.own_neN HI0.out HO_5.out (by decide))); have n1_ := mk (below_weaken HB.out HL.out hb); have n2_ := mk (KeepBut.trans HK.out (KeepBut.of_grown hg g) (Kd.N_base2 HO_5.out)); have n3_ := mk (ho); clear HI0; clear HB; clear HK; clear HO_5; clear HOz2; have HI0 := n0_; have HB := n1_; have HK := n2_; have HOz4 := n3_; clear ho hb hg hat))
     go_roundg k1
     case measure => have := HK1.out; omega
     case rel => exact ⟨(yz3), (wrap64 (x6_1 - 1)), (tz10), (by rfl), H', ⟨by have := HK1.out; omega⟩, HOz4, HI0, HK, HB⟩
    rw [if_neg c19] at H
    exact absurd H (by simp)
   rw [if_neg c10] at H
   have c10b0 : decide (0 < x6_1) = false := decide_eq_false c10
   clear c10
   simp only [Option.some.injEq, Prod.mk.injEq] at H
   obtain ⟨rfl, rfl⟩ := H
   go_wp2
   go_ret
   exact ⟨_, by rfl, by exact Kd.N_mono HO_5.out (fun _ hk => hk.1), by exact HI0.out, by exact HB.out, by exact HK.out⟩


def spec_DrawRunSteps.f (k : Nat) (l0 : List Int) : Option (Int × Int × Int × List Int × (List S43)) := (spec_newReader.f l0).bind fun btz1 => ((spec_anyImage.f k btz1.1 btz1.2).bind fun btz0 => ((spec_anySteps.f k btz1.1 btz0.2.2.2.2 btz0.2.2.1).bind fun btz2 => (some (btz0.1, btz0.2.1, btz0.2.2.1, btz0.2.2.2.1, btz2.1))))
theorem spec_DrawRunSteps.calls (k : Nat) (A0 : Option Addr) (c0 : Nat) (l0 : List Int) (r1 : Int) (r2 : Int) (r3 : Int) (r4 : List Int) (r5 : List S43) (w : World) (hr0 : Kd.C (Kd.int .u8) w A0 l0.length l0) (hc0 : l0.length ≤ c0) (h : spec_DrawRunSteps.f k l0 = some (r1, r2, r3, r4, r5)) :
  Calls Try.prog 36 #[.slice A0 l0.length c0] w fun e w' => ∃ v3_ v4_ : Value, e = .returned (.tuple #[.agg #[.int .i64 r1, .int .i64 r2, .int .i64 r3, v3_], v4_]) ∧ Kd.Q (Kd.int .i64) 3 w' w.heap.size (fun k_ => (w.heap.size ≤ k_)) v3_ r4 ∧ Kd.N k43 43 w' w.heap.size (fun k_ => (w.heap.size ≤ k_) ∧ some k_ ≠ (v3_ : Value).ownBlock) v4_ r5 ∧ Below w.heap.size w w' := by
 have hu28 := Try.underlying28
 have HR0 := mk hr0
 have HC0 := mk hc0
 clear hr0 hc0
 have HB := mk (Below.refl w.heap.size w)
 have H : ((spec_newReader.f l0).bind fun btz1 => ((spec_anyImage.f k btz1.1 btz1.2).bind fun btz0 => ((spec_anySteps.f k btz1.1 btz0.2.2.2.2 btz0.2.2.1).bind fun btz2 => (some (btz0.1, btz0.2.1, btz0.2.2.1, btz0.2.2.2.1, btz2.1))))) = some (r1, r2, r3, r4, r5) := h
 clear h
 replace H := Option.bind_eq_some_iff.mp H
 obtain ⟨⟨tz4, tz6⟩, A20, H⟩ := H
 replace H : ((spec_anyImage.f k tz4 tz6).bind fun btz0 => ((spec_anySteps.f k tz4 btz0.2.2.2.2 btz0.2.2.1).bind fun btz2 => (some (btz0.1, btz0.2.1, btz0.2.2.1, btz0.2.2.2.1, btz2.1)))) = some (r1, r2, r3, r4, r5) := H
 have A2 := mk A20
 clear A20
 replace H := Option.bind_eq_some_iff.mp H
 obtain ⟨⟨tz0, tz2, tz1, tz3, tz5⟩, A30, H⟩ := H
 replace H : ((spec_anySteps.f k tz4 tz5 tz1).bind fun btz2 => (some (tz0, tz2, tz1, tz3, btz2.1))) = some (r1, r2, r3, r4, r5) := H
 have A3 := mk A30
 clear A30
 replace H := Option.bind_eq_some_iff.mp H
 obtain ⟨⟨tz7, tz8⟩, A40, H⟩ := H
 replace H : (some (tz0, tz2, tz1, tz3, tz7)) = some (r1, r2, r3, r4, r5) := H
 have A4 := mk A40
 clear A40
 simp only [Option.some.injEq, Prod.mk.injEq] at H
 obtain ⟨rfl, rfl, rfl, rfl, rfl⟩ := H
 go_enter Try.func36, Try.ntmps36
 try go_wp2_with (first | ((with_reducible refine gate_dst (N := 2) rfl ?_); refine box_event (by rfl) (N := 2) (by rfl) (cs := #[.int .i64 0, .int .i64 0, .int .i64 0, .slice none 0 0]) (t := 28) (by go_simp; done) ?_; intro gbz1 hg w5 hbox hb; have BKz0 := mk (hbox); have GEz0 := mk ((by rw [hg]; exact (below_size HB.out) : w.heap.size ≤ gbz1)); replace HB := mk (below_step HB.out hb); clear hb hbox hg) | ((with_reducible refine gate_callee (f := 49) rfl ?_); refine goesL_ (some 7) rfl rfl Try.func49 (by kernel_rfl) rfl #[.slice A0 l0.length c0] rfl (by (try simp only [List.map_toArray, List.map_cons, List.map_nil]); rfl) ?_; (with_reducible refine (spec_newReader.calls _ _ l0 tz4 tz6 w _ ?side1 ?side2 ?side3 A2.out).mono ?_); (case side1 => repeat (with_reducible exact HB.out)); (case side2 => exact HR0.out); (case side3 => exact HC0.out); rintro e w6 ⟨gz0, rfl, hi, hb, hb2⟩; refine ⟨_, rfl, ?_⟩; replace HB := mk (hb); have HI37004 := mk (hi); have NBz2 := mk (Ne.symm (IsS90.ne_blk hi (blk_below BKz0.out hb2) (by decide))); replace BKz0 := mk (blk_below BKz0.out hb2); (try clear hb); (try clear hb2); (try clear hi)) | ((with_reducible refine gate_callee (f := 50) rfl ?_); refine goesL_ (some 9) rfl rfl Try.func50 (by kernel_rfl) rfl #[.pointer (some ⟨gz0, 0, none⟩)] rfl (by (try simp only [List.map_toArray, List.map_cons, List.map_nil]); rfl) ?_; (with_reducible refine (spec_anyImage.calls k gz0 tz4 tz6 tz0 tz2 tz1 tz3 tz5 w _ ?side1 ?side2 A3.out).mono ?_); (case side1 => repeat (with_reducible exact HI37004.out)); (case side2 => repeat (with_reducible exact HB.out)); rintro e w7 ⟨vz0, rfl, ho0, hi, hb, hk⟩; refine ⟨_, rfl, ?_⟩; replace BKz0 := mk (KeepBut.blk hk (g' := gbz1) (o := .cells #[.int .i64 0, .int .i64 0, .int .i64 0, .slice none 0 0] 28 (0, 0)) BKz0.out NBz2.out (by simp)); have HOz0 := mk (Kd.Q_lower (Kd.Q_newM (M := fun k_ => (w.heap.size ≤ k_)) ho0 (below_size HB.out) (fun k_ h_ => h_)) (below_size HB.out)); replace HB := mk (hb); replace HI37004 := mk (hi); (try clear hb); (try clear hk); (try clear hi); (try clear ho0)) | ((with_reducible refine gate_dst (N := 5) rfl ?_); refine box_event (by rfl) (N := 5) (by rfl) (cs := #[.int .i64 0, .int .i64 0, .int .i64 0, .slice none 0 0]) (t := 28) (by go_simp; done) ?_; intro gbz0 hg w8 hbox hb; replace HOz0 := mk (Kd.Q_below HOz0.out hb); have BKz1 := mk (hbox); have GEz1 := mk ((by rw [hg]; exact (below_size HB.out) : w.heap.size ≤ gbz0)); replace HB := mk (below_step HB.out hb); have NBz1 := mk ((by rw [hg]; exact Nat.ne_of_lt (blk_lt BKz0.out) : gbz1 ≠ gbz0)); have NBz0 := mk ((by rw [hg]; exact Nat.ne_of_gt (blk_lt BKz0.out) : gbz0 ≠ gbz1)); replace BKz0 := mk (blk_below BKz0.out hb); have NBz3 := mk ((by rw [hg]; exact Nat.ne_of_lt (IsS90.lt (show IsS90 w _ gz0 tz4 tz5 from by exact HI37004.out)) : gz0 ≠ gbz0)); have NBz4 := mk ((by rw [hg]; exact Nat.ne_of_gt (IsS90.lt (show IsS90 w _ gz0 tz4 tz5 from by exact HI37004.out)) : gbz0 ≠ gz0)); replace HI37004 := mk (IsS90.below HI37004.out hb); clear hb hbox hg; obtain ⟨hcz11_0, hcz11_1, hcz11_2, hcz11_3, hfz11_0, hfz11_1, hfz11_2, hfz11_3⟩ := c4 BKz1.out; obtain ⟨Ao12, co12, eo12, _⟩ := Kd.Q_slice HOz0.out; subst eo12))
 have n0_ : Aside0 (Kd.Q (Kd.int .i64) 3 ((((w8.setCell ⟨gbz0, 0, none⟩ (.int .i64 tz0)).setCell ⟨gbz0, 1, none⟩ (.int .i64 tz2)).setCell ⟨gbz0, 2, none⟩ (.int .i64 tz1)).setCell ⟨gbz0, 3, none⟩ (.slice Ao12 tz3.length co12)) w.heap.size (fun k_ => (w.heap.size ≤ k_)) (.slice Ao12 tz3.length co12) tz3) := ⟨by exact Kd.Q_mono (Kd.Q_far (p := ⟨gbz0, 3, none⟩) (Kd.Q_far (p := ⟨gbz0, 2, none⟩) (Kd.Q_far (p := ⟨gbz0, 1, none⟩) (Kd.Q_far (p := ⟨gbz0, 0, none⟩) (Kd.Q_types HOz0.out BKz1.out (by decide)) (fun _ hk => hk.2) (.int .i64 tz0)) (fun _ hk => hk.2) (.int .i64 tz2)) (fun _ hk => hk.2) (.int .i64 tz1)) (fun _ hk => hk.2) (.slice Ao12 tz3.length co12)) (fun _ hk => hk.1.1)⟩
 have n1_ : Aside0 (((((w8.setCell ⟨gbz0, 0, none⟩ (.int .i64 tz0)).setCell ⟨gbz0, 1, none⟩ (.int .i64 tz2)).setCell ⟨gbz0, 2, none⟩ (.int .i64 tz1)).setCell ⟨gbz0, 3, none⟩ (.slice Ao12 tz3.length co12)).heap[gbz1]? = some (.cells #[.int .i64 0, .int .i64 0, .int .i64 0, .slice none 0 0] 28 (0, 0))) := ⟨by refine blk_far ?_ NBz1.out _; refine blk_far ?_ NBz1.out _; refine blk_far ?_ NBz1.out _; refine blk_far ?_ NBz1.out _; exact BKz0.out⟩
 have n2_ : Aside0 (((((w8.setCell ⟨gbz0, 0, none⟩ (.int .i64 tz0)).setCell ⟨gbz0, 1, none⟩ (.int .i64 tz2)).setCell ⟨gbz0, 2, none⟩ (.int .i64 tz1)).setCell ⟨gbz0, 3, none⟩ (.slice Ao12 tz3.length co12)).heap[gbz0]? = some (.cells #[.int .i64 tz0, .int .i64 tz2, .int .i64 tz1, .slice Ao12 tz3.length co12] 28 (0, 0))) := ⟨by refine blk_put (cs := #[.int .i64 tz0, .int .i64 tz2, .int .i64 tz1, .slice none 0 0]) ?_ 3 _ rfl; refine blk_put (cs := #[.int .i64 tz0, .int .i64 tz2, .int .i64 0, .slice none 0 0]) ?_ 2 _ rfl; refine blk_put (cs := #[.int .i64 tz0, .int .i64 0, .int .i64 0, .slice none 0 0]) ?_ 1 _ rfl; refine blk_put (cs := #[.int .i64 0, .int .i64 0, .int .i64 0, .slice none 0 0]) ?_ 0 _ rfl; exact BKz1.out⟩
 have n3_ : Aside0 (IsS90 w ((((w8.setCell ⟨gbz0, 0, none⟩ (.int .i64 tz0)).setCell ⟨gbz0, 1, none⟩ (.int .i64 tz2)).setCell ⟨gbz0, 2, none⟩ (.int .i64 tz1)).setCell ⟨gbz0, 3, none⟩ (.slice Ao12 tz3.length co12)) gz0 tz4 tz5) := ⟨by repeat (with_reducible first | exact HI37004.out | refine IsS90.far ?_ NBz3.out _)⟩
 have n4_ : Aside0 (Below w.heap.size w ((((w8.setCell ⟨gbz0, 0, none⟩ (.int .i64 tz0)).setCell ⟨gbz0, 1, none⟩ (.int .i64 tz2)).setCell ⟨gbz0, 2, none⟩ (.int .i64 tz1)).setCell ⟨gbz0, 3, none⟩ (.slice Ao12 tz3.length co12))) := ⟨by repeat (with_reducible first | exact HB.out | refine below_set ?_ GEz1.out)⟩
 (try clear HOz0)
 (try clear BKz0)
 (try clear BKz1)
 (try clear HI37004)
 (try clear HB)
 generalize ((((w8.setCell ⟨gbz0, 0, none⟩ (.int .i64 tz0)).setCell ⟨gbz0, 1, none⟩ (.int .i64 tz2)).setCell ⟨gbz0, 2, none⟩ (.int .i64 tz1)).setCell ⟨gbz0, 3, none⟩ (.slice Ao12 tz3.length co12)) = w13 at n0_ n1_ n2_ n3_ n4_ ⊢
 revert n0_ n1_ n2_ n3_ n4_; intro HOz0 BKz0 BKz1 HI37004 HB
 replace HOz0 := mk (Kd.Q_drew HOz0.out)
 replace BKz0 := mk (blk_drew BKz0.out)
 replace BKz1 := mk (blk_drew BKz1.out)
 replace HI37004 := mk (IsS90.drew HI37004.out)
 replace HB := mk (below_drew1 HB.out)
 refine start_ (n := 7) (S := fun w' => w'.cell? ⟨gbz0, 0, none⟩ = some (.int .i64 tz0) ∧ w'.cell? ⟨gbz0, 1, none⟩ = some (.int .i64 tz2) ∧ w'.cell? ⟨gbz0, 2, none⟩ = some (.int .i64 tz1) ∧ w'.cell? ⟨gbz0, 3, none⟩ = some (.slice Ao12 tz3.length co12)) (ds := []) #[false, false, false, false, false, false, false] (by kernel_rfl) rfl rfl ⟨blk_cell BKz1.out 0, blk_cell BKz1.out 1, blk_cell BKz1.out 2, blk_cell BKz1.out 3⟩ (fun hHeld => ?_)
 generalize w13.drew = w14 at HOz0 BKz0 BKz1 HI37004 HB hHeld ⊢
 refine pure_ (i := 1) (N := some 11) (v := ?_) (a' := ?_) #[false, true, false, false, false, false, false] rfl rfl (by kernel_rfl) (fun _ _ _ h => h) (Or.inl ⟨by rfl, ?_⟩) ?_ ?_
 rotate_left
 ·intro w'
  go_simp
  with_reducible rfl
 rotate_left
 ·simp only [Act.put, List.setIfInBounds_toArray, List.set_cons_zero, List.set_cons_succ, i64_w, i32_w]
  rfl
 refine pure_ (i := 2) (N := some 12) (v := ?_) (a' := ?_) #[false, true, true, false, false, false, false] rfl rfl (by kernel_rfl) (fun _ _ _ h => h) (Or.inl ⟨by rfl, ?_⟩) ?_ ?_
 rotate_left
 ·intro w'
  go_simp
  with_reducible rfl
 rotate_left
 ·simp only [Act.put, List.setIfInBounds_toArray, List.set_cons_zero, List.set_cons_succ, i64_w, i32_w]
  rfl
 refine take_ (i := 0) (N := some 10) (v := ?_) (a' := ?_) #[true, true, true, false, false, false, false] rfl rfl (by kernel_rfl) (fun _ _ _ h => h) (Or.inl ⟨by rfl, ?_⟩) hHeld ?_ ?_
 rotate_left
 ·rintro w' ⟨s0, s1, s2, s3⟩
  go_simp
  with_reducible rfl
 rotate_left
 ·simp only [Act.put, List.setIfInBounds_toArray, List.set_cons_zero, List.set_cons_succ, i64_w, i32_w]
  rfl
 refine take_ (i := 3) (N := some 13) (v := ?_) (a' := ?_) #[true, true, true, true, false, false, false] rfl rfl (by kernel_rfl) (fun _ _ _ h => h) (Or.inl ⟨by rfl, ?_⟩) hHeld ?_ ?_
 rotate_left
 ·rintro w' ⟨s0, s1, s2, s3⟩
  go_simp
  with_reducible rfl
 rotate_left
 ·simp only [Act.put, List.setIfInBounds_toArray, List.set_cons_zero, List.set_cons_succ, i64_w, i32_w]
  rfl
 refine one_ (i := 4) (N := some 14) #[true, true, true, true, true, false, false] rfl rfl (by kernel_rfl) (by decide) (fun K hK => ?_)
 refine goes_ Try.func66 (by kernel_rfl) rfl #[.pointer (some ⟨gz0, 0, none⟩), .int .i64 tz1] (by rfl) rfl rfl (by (try simp only [List.map_toArray, List.map_cons, List.map_nil]); rfl) ?_
 with_reducible refine (spec_anySteps.calls k gz0 tz4 tz5 tz1 tz7 tz8 w _ ?side1 ?side2 A4.out).mono ?_
 (case side1 => repeat (with_reducible exact HI37004.out))
 (case side2 => repeat (with_reducible exact HB.out))
 rintro e w15 ⟨vz1, rfl, ho0, hi, hb, hk⟩
 refine ⟨_, rfl, ?_⟩
 have HOz1 := mk (Kd.N_lower (Kd.N_mono (ok' := fun k_ => (w.heap.size ≤ k_) ∧ some k_ ≠ (.slice Ao12 tz3.length co12 : Value).ownBlock ∧ k_ ≠ gbz1 ∧ k_ ≠ gbz0 ∧ k_ ≠ gz0) ho0 (fun k_ hk_ => ⟨(Nat.le_trans (below_size HB.out) hk_), (Kd.fresh' (Kd.Q_lt HOz0.out) k_ hk_), (Kd.freshB (g := gbz1) (o := .cells #[.int .i64 0, .int .i64 0, .int .i64 0, .slice none 0 0] 28 (0, 0)) BKz0.out k_ hk_), (Kd.freshB (g := gbz0) (o := .cells #[.int .i64 tz0, .int .i64 tz2, .int .i64 tz1, .slice Ao12 tz3.length co12] 28 (0, 0)) BKz1.out k_ hk_), (IsS90.fresh HI37004.out k_ hk_)⟩)) (below_size HB.out))
 replace BKz0 := mk (KeepBut.blk hk (g' := gbz1) (o := .cells #[.int .i64 0, .int .i64 0, .int .i64 0, .slice none 0 0] 28 (0, 0)) BKz0.out NBz2.out (by simp))
 replace HOz0 := mk (Kd.Q_mono (Kd.Q_keep (IsS90.apartQ (show IsS90 w _ gz0 tz4 tz5 from by exact HI37004.out) HOz0.out (by decide)) hk (fun _ h => h.2)) (fun _ h => h.1))
 replace BKz1 := mk (KeepBut.blk hk (g' := gbz0) (o := .cells #[.int .i64 tz0, .int .i64 tz2, .int .i64 tz1, .slice Ao12 tz3.length co12] 28 (0, 0)) BKz1.out NBz4.out (by simp))
 replace HB := mk (hb)
 replace HI37004 := mk (hi)
 (try clear hb)
 (try clear hk)
 (try clear hi)
 (try clear ho0)
 refine hK.out _ _ ⟨blk_cell BKz1.out 0, blk_cell BKz1.out 1, blk_cell BKz1.out 2, blk_cell BKz1.out 3⟩ (fun hHeld => ?_)
 clear hK K
 refine norm_ (a' := ?_) ?_ ?_
 rotate_left
 ·show Act.put _ (some 14) _ = _
  simp only [Act.put, List.setIfInBounds_toArray, List.set_cons_zero, List.set_cons_succ, i64_w, i32_w]
  rfl
 refine one_ (i := 5) (N := none) #[true, true, true, true, true, true, false] rfl rfl (by kernel_rfl) (by decide) (fun K hK => ?_)
 obtain ⟨hs16, -, -, -, hfs16, -⟩ := c4 BKz0.out
 have hns16_1 := NBz0.out
 have hms16_1 := NBz1.out
 obtain ⟨-, hs17, -, -, -, hfs17, -⟩ := c4 BKz0.out
 have hns17_1 := NBz0.out
 have hms17_1 := NBz1.out
 obtain ⟨-, -, hs18, -, -, -, hfs18, -⟩ := c4 BKz0.out
 have hns18_1 := NBz0.out
 have hms18_1 := NBz1.out
 obtain ⟨-, -, -, hs19, -, -, -, hfs19⟩ := c4 BKz0.out
 have hns19_1 := NBz0.out
 have hms19_1 := NBz1.out
 refine skip_ (w1 := ?_) (by rfl) rfl ?_ ?_
 rotate_left
 ·go_simp
  rfl
 refine hK.out _ _ ⟨((cell_far (p := ⟨gbz1, _, none⟩) NBz0.out _).trans (((cell_far (p := ⟨gbz1, _, none⟩) NBz0.out _).trans (((cell_far (p := ⟨gbz1, _, none⟩) NBz0.out _).trans (((cell_far (p := ⟨gbz1, _, none⟩) NBz0.out _).trans hHeld.1))))))), ((cell_far (p := ⟨gbz1, _, none⟩) NBz0.out _).trans (((cell_far (p := ⟨gbz1, _, none⟩) NBz0.out _).trans (((cell_far (p := ⟨gbz1, _, none⟩) NBz0.out _).trans (((cell_far (p := ⟨gbz1, _, none⟩) NBz0.out _).trans hHeld.2.1))))))), ((cell_far (p := ⟨gbz1, _, none⟩) NBz0.out _).trans (((cell_far (p := ⟨gbz1, _, none⟩) NBz0.out _).trans (((cell_far (p := ⟨gbz1, _, none⟩) NBz0.out _).trans (((cell_far (p := ⟨gbz1, _, none⟩) NBz0.out _).trans hHeld.2.2.1))))))), ((cell_far (p := ⟨gbz1, _, none⟩) NBz0.out _).trans (((cell_far (p := ⟨gbz1, _, none⟩) NBz0.out _).trans (((cell_far (p := ⟨gbz1, _, none⟩) NBz0.out _).trans (((cell_far (p := ⟨gbz1, _, none⟩) NBz0.out _).trans hHeld.2.2.2)))))))⟩ (fun hHeld => ?_)
 clear hK K
 refine pure_ (i := 6) (N := some 3) (v := ?_) (a' := ?_) #[true, true, true, true, true, true, true] rfl rfl (by kernel_rfl) (fun _ _ _ h => h) (Or.inl ⟨by rfl, ?_⟩) ?_ ?_
 rotate_left
 ·intro w'
  go_simp
  with_reducible rfl
 rotate_left
 ·simp only [Act.put, List.setIfInBounds_toArray, List.set_cons_zero, List.set_cons_succ, i64_w, i32_w]
  rfl
 refine done_ (by kernel_rfl) ?_
 try go_wp2
 refine bodyPost_ret (results_ct rfl _ _ gbz1 28 #[.int .i64 tz0, .int .i64 tz2, .int .i64 tz1, .slice Ao12 tz3.length co12] (0, 0) _ rfl (by refine blk_put (cs := #[.int .i64 tz0, .int .i64 tz2, .int .i64 tz1, .slice none 0 0]) ?_ 3 _ rfl; refine blk_put (cs := #[.int .i64 tz0, .int .i64 tz2, .int .i64 0, .slice none 0 0]) ?_ 2 _ rfl; refine blk_put (cs := #[.int .i64 tz0, .int .i64 0, .int .i64 0, .slice none 0 0]) ?_ 1 _ rfl; refine blk_put (cs := #[.int .i64 0, .int .i64 0, .int .i64 0, .slice none 0 0]) ?_ 0 _ rfl; exact BKz0.out) Try.underlying28 rfl (by kernel_rfl)) rfl ?_
 exact ⟨_, _, by rfl, by exact Kd.Q_mono (Kd.Q_far (p := ⟨gbz1, 3, none⟩) (Kd.Q_far (p := ⟨gbz1, 2, none⟩) (Kd.Q_far (p := ⟨gbz1, 1, none⟩) (Kd.Q_far (p := ⟨gbz1, 0, none⟩) (Kd.Q_types HOz0.out BKz0.out (by decide)) (fun _ hk => hk.2) (.int .i64 tz0)) (fun _ hk => hk.2) (.int .i64 tz2)) (fun _ hk => hk.2) (.int .i64 tz1)) (fun _ hk => hk.2) (.slice Ao12 tz3.length co12)) (fun _ hk => hk.1), by exact Kd.N_mono (Kd.N_far (p := ⟨gbz1, 3, none⟩) (Kd.N_far (p := ⟨gbz1, 2, none⟩) (Kd.N_far (p := ⟨gbz1, 1, none⟩) (Kd.N_far (p := ⟨gbz1, 0, none⟩) (Kd.N_mono HOz1.out (fun k_ hk => (⟨hk, hk.2.2.1⟩ : _ ∧ k_ ≠ gbz1))) (fun _ hk => hk.2) (.int .i64 tz0)) (fun _ hk => hk.2) (.int .i64 tz2)) (fun _ hk => hk.2) (.int .i64 tz1)) (fun _ hk => hk.2) (.slice Ao12 tz3.length co12)) (fun _ hk => ⟨hk.1.1, hk.1.2.1⟩), by repeat (with_reducible first | exact HB.out | refine below_set ?_ GEz0.out)⟩


/- impl.cancelling's function value: whether a step is of another kind than the first. -/

def otherKind (l : List S43) (s : S43) : Bool := s.f0 != (rd_T43 l 0).f0
theorem add_zero6 (ad : Addr) : ad.add (Int.toNat 0 * 6) = ad := by unfold Addr.add; simp
theorem cancelCmp (l : List S43) (A : Option Addr) (c : Nat) (x : S43) (A5 : Option Addr) (c5 : Nat) (B : Nat) (W : World) (hl : 0 < l.length) (hc : W.cell? ⟨B, 0, none⟩ = some (.slice A l.length c)) (hr : Kd.C k43 W A l.length l) :
  Calls Try.prog 92 #[.agg #[.int .i64 x.f0, .int .i64 x.f1.f0, .int .i64 x.f1.f1, .int .i64 x.f1.f2, .int .i64 x.f1.f3, .slice A5 x.f2.length c5], .pointer (some ⟨B, 0, none⟩)] W fun e W' => e = .returned (.bool (otherKind l x)) ∧ Below W.heap.size W W' := by
 have hu := Try.underlying32
 have hus := Try.underlying43
 obtain ⟨ad, A6, c6, e, hx0, _, _, _, _, _, _, _⟩ := at_T43 hr 0 (by omega) (by omega)
 subst e
 rw [add_zero6] at hx0
 have hlt := World.block_lt_of_cell? W _ hc
 have hlt2 := World.block_lt_of_cell? W _ hx0
 unfold otherKind
 generalize (rd_T43 l 0).f0 = k0 at *
 clear hr
 go_enter Try.func92, Try.ntmps92
 go_wp2
 go_quiet (fail)
 go_wp2
 go_ret
 exact ⟨rfl, pw_below_drewN ((Below.refl _ _).alloc (Nat.le_refl _) _) _⟩

/- slices.IndexFunc over steps: where the first element lies for which the function value's answer is true. -/

theorem idxFunc_Step (g : Nat) (lb : Array Value) (p : S43 → Bool) (A : Option Addr) (c : Nat) (l : List S43) (w : World)
  (eg : ∀ args W, (callFunc g args).run Try.prog W = .ok (.enter g args) W)
  (hp : ∀ (W : World) (x : S43) (A5 : Option Addr) (c5 : Nat), Below w.heap.size w W → Calls Try.prog g (#[.agg #[.int .i64 x.f0, .int .i64 x.f1.f0, .int .i64 x.f1.f1, .int .i64 x.f1.f2, .int .i64 x.f1.f3, .slice A5 x.f2.length c5]] ++ lb) W fun e W' => e = .returned (.bool (p x)) ∧ Below W.heap.size W W')
  (hr : Kd.C k43 w A l.length l) :
  Calls Try.prog 101 #[.slice A l.length c, .func (.func g) #[] lb] w fun e w' => e = .returned (.int .i64 (idxF p l)) ∧ Below w.heap.size w w' := by
 have hm : l.length ≤ 9223372036854775807 := hr.2.1
 have hu := Try.underlying43
 have HP := Aside0.mk hp
 have HR := Aside0.mk hr
 clear hp hr
 go_enter Try.func101, Try.ntmps101
 go_wp2
 go_loopw [8] (fun v8 W => ∃ k : Nat, v8 = .int .i64 k ∧ k ≤ l.length ∧ SawNone p l k ∧ Aside0 (Below w.heap.size w W)) (fun v8 _ => l.length - (intOf v8).toNat)
 case atStart => exact ⟨0, rfl, by omega, fun j hj => by omega, ⟨Below.refl _ _⟩⟩
 case round =>
  obtain ⟨k, rfl, hk, hs, hd⟩ := hrel
  by_cases hlt : k < l.length
  ·obtain ⟨ad, A5, c5, e, hx0, hx1, hx2, hx3, hx4, hx5, l5, g5⟩ := at_T43 (Kd.C_below HR.out hd.out) (k : Int) (by omega) (by omega)
   cases e
   have er : rd_T43 l (k : Int) = l[k] := by simp [rd_T43, hlt]
   rw [er, Int.toNat_natCast] at hx0 hx1 hx2 hx3 hx4 hx5
   clear er l5 g5
   by_cases hv : p l[k] = true
   ·have HV := Aside0.mk hv
    have HS := Aside0.mk (idxF_at p l k hlt hs hv)
    clear hv hs
    generalize l[k] = x at *
    go_wp2_with (first | (go_at_fn g; refine (HP.out _ x A5 c5 hd.out).mono ?_; rintro e w' ⟨rfl, hd2⟩; rw [HV.out]; have HB2 := Aside0.mk (below_then hd.out hd.out.size hd2); clear hd2))
    go_ret
    exact ⟨by rw [HS.out]; rfl, HB2.out⟩
   ·replace hv : p l[k] = false := by simpa using hv
    have hs' := hs.succ hlt hv
    have HV := Aside0.mk hv
    clear hv hs
    generalize l[k] = x at *
    go_wp2_with (first | (go_at_fn g; refine (HP.out _ x A5 c5 hd.out).mono ?_; rintro e w' ⟨rfl, hd2⟩; rw [HV.out]; have HB2 := Aside0.mk (below_then hd.out hd.out.size hd2); clear hd2))
    go_roundw
    case rel => exact ⟨k + 1, by go_num, by omega, hs', HB2⟩
    case measure => simp [intOf]; omega
  ·go_wp2
   go_ret
   have : k = l.length := by omega
   subst this
   exact ⟨by rw [idxF_none p l hs]; rfl, hd.out⟩

/- slices.ContainsFunc over steps. -/

theorem containsFunc_Step (g : Nat) (lb : Array Value) (p : S43 → Bool) (A : Option Addr) (c : Nat) (l : List S43) (w : World)
  (eg : ∀ args W, (callFunc g args).run Try.prog W = .ok (.enter g args) W)
  (hp : ∀ (W : World) (x : S43) (A5 : Option Addr) (c5 : Nat), Below w.heap.size w W → Calls Try.prog g (#[.agg #[.int .i64 x.f0, .int .i64 x.f1.f0, .int .i64 x.f1.f1, .int .i64 x.f1.f2, .int .i64 x.f1.f3, .slice A5 x.f2.length c5]] ++ lb) W fun e W' => e = .returned (.bool (p x)) ∧ Below W.heap.size W W')
  (hr : Kd.C k43 w A l.length l) :
  Calls Try.prog 91 #[.slice A l.length c, .func (.func g) #[] lb] w fun e w' => e = .returned (.bool (l.any p)) ∧ Below w.heap.size w w' := by
 have HP := Aside0.mk hp
 have HR := Aside0.mk hr
 clear hp hr
 go_enter Try.func91, Try.ntmps91
 go_wp2_with (first | (go_at_call 101; refine (idxFunc_Step g lb p _ _ _ _ eg HP.out HR.out).mono ?_; rintro e w' ⟨rfl, hd⟩))
 go_ret
 exact ⟨ret_bool (by first | exact idxF_any p l | (rw [← idxF_any p l])), hd⟩

/- A run of elements taken out of a row of one's own, in place, and the cells behind the row made zero. -/

section
variable {P : Program} {α : Type}
theorem R_cut_run (d : Kd α) {W : World} (base : Nat) (t ty e : TypeId) (i : TypeInfo) (ht : P.underlying t = some (.slice e)) (hi : P.info? e = some i) (hsz : i.size = d.sz)
    {g n c k m : Nat} {xs : List α} {ok : Nat → Prop} (HO : d.R e W base ok (.slice (some ⟨g, 0, none⟩) n c) xs) (hm : 0 < m) (hk : k + m ≤ n) {A : Option Addr} (hA : A = if c = k + m then some ⟨g, 0, none⟩ else (some (⟨g, 0, none⟩ : Addr)).map (·.add ((k + m) * d.sz))) (c2 : Nat) :
    ∃ w1, (Builtin.append_ #[t, t] ty #[.slice (some ⟨g, 0, none⟩) k c, .slice A (n - (k + m)) c2]).run P W = .ok (.slice (some ⟨g, 0, none⟩) (n - m) c) w1 ∧ d.R e w1 base ok (.slice (some ⟨g, 0, none⟩) (n - m) c) (xs.take k ++ xs.drop (k + m)) ∧ W.grownBy w1 (some g) := by
  obtain ⟨hn, hnc, _⟩ := Kd.R_reads' HO
  obtain ⟨hok, inner, hown, hr⟩ := HO
  have hin : inner.length = n * d.sz := by rw [hr.1, hn]
  rcases hown.2 with ⟨hv, _⟩ | ⟨g', cap', cur, hv, hb, hh, _, hcm, hcs, htake⟩
  · cases hv
  injection hv with ha _ hc
  injection ha with ha
  injection ha with hg
  subst hg; subst hc
  rw [← hn] at htake
  obtain ⟨news, hnews⟩ : ∃ news, news = inner.drop ((k + m) * d.sz) := ⟨_, rfl⟩
  have hnl : news.length = (n - (k + m)) * d.sz := by rw [hnews, List.length_drop, hin, Nat.sub_mul]
  have hle : (k + m) * d.sz ≤ n * d.sz := Nat.mul_le_mul_right _ hk
  have hks : (k + m) * d.sz = k * d.sz + m * d.sz := Nat.add_mul _ _ _
  have hnc' : n * d.sz ≤ c * d.sz := Nat.mul_le_mul_right _ hnc
  have hsub : (n - (k + m)) * d.sz = n * d.sz - (k + m) * d.sz := Nat.sub_mul _ _ _
  have hcur : ∀ q, q < n * d.sz → cur.toList[q]? = inner[q]? := by
    intro q hq
    rw [← htake, List.getElem?_take, if_pos hq]
  obtain ⟨a, rfl, hcell⟩ : ∃ a, A = some a ∧ ∀ j u, news[j]? = some u → W.cell? (a.add j) = some u := by
    by_cases hck : c = k + m
    · rw [if_pos hck] at hA
      refine ⟨_, hA, fun j u hu => ?_⟩
      have h0 : news = [] := List.eq_nil_of_length_eq_zero (by rw [hnl, show n - (k + m) = 0 by omega, Nat.zero_mul])
      rw [h0] at hu
      simp at hu
    · rw [if_neg hck, Option.map_some] at hA
      refine ⟨_, hA, fun j u hu => ?_⟩
      have hj : j < news.length := (List.getElem?_eq_some_iff.1 hu).1
      rw [add_add, add_at, cell_of_row W g _ cur e (0, 0) hh, ← Array.getElem?_toList]
      rw [hnews, List.getElem?_drop] at hu
      rw [← hu, Nat.zero_add]
      exact hcur _ (by omega)
  have hone : ∀ u ∈ news, u.oneCell' = true := by
    intro u hu
    have hu' : u ∈ inner := by rw [hnews] at hu; exact List.mem_of_mem_drop hu
    obtain ⟨q, hq, rfl⟩ := List.mem_iff_getElem.1 hu'
    have hs0 : 0 < d.sz := by
      rcases Nat.eq_zero_or_pos d.sz with h | h
      · rw [h, Nat.mul_zero] at hin; omega
      · exact h
    have hql : q / d.sz < xs.length := by
      rw [Nat.div_lt_iff_lt_mul hs0, ← hr.1]
      exact hq
    refine d.K_one (d.K_of_M (hr.2 (q / d.sz) _ (List.getElem?_eq_getElem hql))) _ ?_
    rw [List.mem_iff_getElem?]
    refine ⟨q % d.sz, ?_⟩
    rw [List.getElem?_take, if_pos (Nat.mod_lt _ hs0), List.getElem?_drop, Nat.mul_comm, Nat.div_add_mod, List.getElem?_eq_getElem hq]
  have hfit : 0 + k * d.sz + news.length ≤ cur.size := by omega
  have hrun := run_append_room_cells (P := P) (w := W) t ty e i ht hi g 0 k c a (n - (k + m)) c2 news (by rw [hnl, hsz]) hcell hone (by omega)
    (fun j hj => by rw [hsz, cell_of_row W g _ cur e (0, 0) hh]; simp; omega) (fun j _ => blk_frozen hh _)
  rw [hsz, show k + (n - (k + m)) = n - m by omega] at hrun
  obtain ⟨cur', h3, h4, h5⟩ := setCells_row news (0 + k * d.sz) W cur hh hfit
  obtain ⟨s1, s2, s3, s4⟩ := setCells_same g news (0 + k * d.sz) W
  have hfar : ∀ k', k' ≠ g → (W.setCells g (0 + k * d.sz) news).heap[k']? = W.heap[k']? := fun k' hk' => setCells_far news _ k' hk'
  have hgo : ∀ m, some g = (Value.slice (some ⟨g, 0, none⟩) m c).ownBlock := fun m => by simp [Value.ownBlock]
  have hel : (xs.take k ++ xs.drop (k + m)).length = n - m := by rw [List.length_append, List.length_take, List.length_drop, ← hn]; omega
  refine ⟨_, hrun, ⟨fun k' hk' => hok k' (by rw [← hgo] at hk' ⊢; exact hk'), inner.take (k * d.sz) ++ news, ⟨?_, .inr ⟨g, c, cur', by rw [hel], hb, h3, by rw [hel]; omega, hcm, by rw [h4, hcs], ?_⟩⟩, ?_⟩, ⟨s1, s2, s3, by rw [s4]; exact Nat.le_refl _, fun k' _ hk' => hfar k' (fun he => hk' (by rw [he]))⟩⟩
  · rw [List.length_append, List.length_take, hnl, hel]
    have : (n - m) * d.sz = n * d.sz - m * d.sz := by rw [Nat.sub_mul]
    omega
  · rw [hel, h5, Nat.zero_add]
    have h6 : (n - m) * d.sz = n * d.sz - m * d.sz := by rw [Nat.sub_mul]
    have h7 : cur.toList.take (k * d.sz) = inner.take (k * d.sz) := by
      rw [← htake, List.take_take, Nat.min_eq_left (by omega)]
    rw [h7]
    exact List.take_left' (by rw [List.length_append, List.length_take, hnl]; omega)
  · have hmv : ∀ p q, d.M W base (fun k' => ok k' ∧ some k' ≠ (Value.slice (some ⟨g, 0, none⟩) n c).ownBlock) p q → d.M (W.setCells g (0 + k * d.sz) news) base (fun k' => ok k' ∧ some k' ≠ (Value.slice (some ⟨g, 0, none⟩) (n - m) c).ownBlock) p q := fun p q hp =>
      d.M_mono (fun k' hk' => ⟨hk'.1, by rw [← hgo]; rw [← hgo] at hk'; exact hk'.2⟩) (d.M_move (fun k' hk' => hfar k' (fun he => hk'.2 (by rw [← hgo, he]))) hp)
    subst hnews
    exact Kd.reps_append ((Kd.reps_take hr (by omega)).imp_ hmv) ((Kd.reps_drop hr).imp_ hmv)
theorem R_cut_step {ops : Array Oper} {o : Oper} {a : Act} {Q : Exit → Act → World → Prop} {Kc : Act → World → Prop} (d : Kd α) {w0 W : World} (base : Nat) (hw : Region.wanted o (yielded ops a.tmps) = true) (s x : Operand) (t e : TypeId) (ho : o.op = .call { callee := .builtin .append, args := #[s, x], argTypes := #[t, t] })
    (ht : P.underlying t = some (.slice e)) (hinfo : (P.info? e).map (·.size) = some d.sz) {g n c k j c2 : Nat} {A : Option Addr} {xs : List α} {ok : Nat → Prop}
    (hs : a.eval s = .slice (some ⟨g, 0, none⟩) k c) (hx : a.eval x = .slice A (n - j) c2) (hA : A = if c = j then some ⟨g, 0, none⟩ else (some (⟨g, 0, none⟩ : Addr)).map (·.add (j * d.sz)))
    (HO : d.R e W base ok (.slice (some ⟨g, 0, none⟩) n c) xs) (hk : k < j) (hj : j ≤ n) (HB : Below base w0 W) (hbase : base ≤ W.heap.size)
    (h : ∀ w1, d.R e w1 base ok (.slice (some ⟨g, 0, none⟩) (n - (j - k)) c) (xs.take k ++ xs.drop j) → Below base w0 w1 → W.grownBy w1 (some g) → Kc (a.put o.dst (.slice (some ⟨g, 0, none⟩) (n - (j - k)) c)) w1) :
    if Region.wanted o (yielded ops a.tmps) = true then Oper.wp P o a W Kc Q else Kc (a.put o.dst undef) W := by
  obtain ⟨i0, hi, hsz⟩ := Option.map_eq_some_iff.1 hinfo
  obtain ⟨m, rfl⟩ : ∃ m, j = k + m := ⟨j - k, by omega⟩
  rw [show k + m - k = m by omega] at h
  obtain ⟨w1, hr, h1, h2⟩ := R_cut_run (P := P) d base t o.type e i0 ht hi hsz HO (m := m) (k := k) (by omega) hj hA c2
  rw [if_pos hw]
  unfold Oper.wp execOp
  simp only [ho, resolve, invoke, builtin, Sem.run_bind, Sem.run_pure, Result.andThen_ok, List.map_toArray, List.map_cons, List.map_nil, hs, hx, hr]
  exact h w1 h1 (HB.grown h2 hbase (fun k hk => by injection hk with hk; subst hk; exact Kd.R_base HO _ (by simp [Value.ownBlock]))) h2
theorem R_tail_run (d : Kd α) {W : World} {base g k c m c2 : Nat} {xs : List α} {ok : Nat → Prop} (t e ty : TypeId) (ht : P.underlying t = some (.slice e)) (z : Value) (hz : ∀ w, (zeroValue e).run P w = .ok z w) (hzc : z.cells.size = d.sz) (hs0 : 0 < d.sz) (h1 : ∀ u ∈ z.cells.toList, u.oneCell' = true)
    (HO : d.R e W base ok (.slice (some ⟨g, 0, none⟩) k c) xs) (hm : 0 < m) (hkm : k + m ≤ c) :
    ∃ w1, (Builtin.clear_ #[t] ty #[.slice (some ⟨g, k * d.sz, none⟩) m c2]).run P W = .ok (.tuple #[]) w1 ∧ d.R e w1 base ok (.slice (some ⟨g, 0, none⟩) k c) xs ∧ W.grownBy w1 (some g) := by
  obtain ⟨hn, hnc, _⟩ := Kd.R_reads' HO
  obtain ⟨hok, inner, hown, hr⟩ := HO
  rcases hown.2 with ⟨hv, _⟩ | ⟨g', cap', cur, hv, hb, hh, hle, hcm, hcs, htake⟩
  · cases hv
  injection hv with ha _ hc
  injection ha with ha
  injection ha with hg
  subst hg; subst hc
  obtain ⟨seg, hseg⟩ : ∃ seg, seg = (Builtin.zeroCells z.cells m).toList := ⟨_, rfl⟩
  have hsl : seg.length = m * d.sz := by rw [hseg, Array.length_toList, size_zeroCells, hzc]
  have hone : ∀ u ∈ seg, u.oneCell' = true := by
    intro u hu
    rw [hseg] at hu
    simp only [Builtin.zeroCells, Array.toList_map, List.mem_map] at hu
    obtain ⟨j, _, rfl⟩ := hu
    have hj : j % z.cells.size < z.cells.size := Nat.mod_lt _ (by omega)
    rw [getElem!_pos z.cells _ hj]
    exact h1 _ (by rw [Array.mem_toList_iff]; exact Array.getElem_mem hj)
  have hfit : k * d.sz + seg.length ≤ cur.size := by
    rw [hsl, hcs, ← Nat.add_mul]
    exact Nat.mul_le_mul_right _ hkm
  have hst := run_storeCells_cells (P := P) g (k * d.sz) seg 0 W (fun j hj => by rw [cell_of_row W g _ cur e (0, 0) hh]; simp; omega) (fun j _ => blk_frozen hh _) hone
  simp only [Nat.add_zero] at hst
  obtain ⟨cur', h3, h4, h5⟩ := setCells_row seg (k * d.sz) W cur hh hfit
  obtain ⟨s1, s2, s3, s4⟩ := setCells_same g seg (k * d.sz) W
  have hfar : ∀ k', k' ≠ g → (W.setCells g (k * d.sz) seg).heap[k']? = W.heap[k']? := fun k' hk' => setCells_far seg _ k' hk'
  have hgo : some g = (Value.slice (some ⟨g, 0, none⟩) k c).ownBlock := by simp [Value.ownBlock]
  refine ⟨W.setCells g (k * d.sz) seg, ?_, ⟨hok, inner, ⟨hown.1, .inr ⟨g, c, cur', by rw [hn], hb, h3, hle, hcm, by rw [h4, hcs], ?_⟩⟩, ?_⟩, ⟨s1, s2, s3, by rw [s4]; exact Nat.le_refl _, fun k' _ hk' => hfar k' (fun he => hk' (by rw [he]))⟩⟩
  · obtain ⟨q, rfl⟩ : ∃ q, m = q + 1 := ⟨m - 1, by omega⟩
    simp [Builtin.clear_, run_underlying ht, hz, ← hseg, hst]
  · rw [← htake, h5, ← hn]
    have hcl : cur.toList.length = c * d.sz := by rw [Array.length_toList, hcs]
    have hkc : k * d.sz ≤ c * d.sz := Nat.mul_le_mul_right _ (by omega)
    rw [List.append_assoc, List.take_append_of_le_length (by rw [List.length_take]; omega), List.take_take, Nat.min_self]
  · exact hr.imp_ (fun p q hp => d.M_move (fun k' hk' => hfar k' (fun he => hk'.2 (by rw [← hgo, he]))) hp)
theorem R_tail {ops : Array Oper} {rest : List Oper} {o : Oper} {a : Act} {Q : Exit → Act → World → Prop} (d : Kd α) {w0 W : World} (base : Nat) (hgd : o.guard = none) (x : Operand) (t e : TypeId) (ho : o.op = .call { callee := .builtin .clear, args := #[x], argTypes := #[t] })
    (ht : P.underlying t = some (.slice e)) (z : Value) (hz : ∀ w, (zeroValue e).run P w = .ok z w) (hzc : z.cells.size = d.sz) (hs0 : 0 < d.sz) (h1 : ∀ u ∈ z.cells.toList, u.oneCell' = true) {g k c m c2 : Nat} {xs : List α} {ok : Nat → Prop}
    (hx : a.eval x = .slice (some ⟨g, k * d.sz, none⟩) m c2) (HO : d.R e W base ok (.slice (some ⟨g, 0, none⟩) k c) xs) (hm : 0 < m) (hkm : k + m ≤ c) (HB : Below base w0 W) (hbase : base ≤ W.heap.size)
    (h : ∀ w1, d.R e w1 base ok (.slice (some ⟨g, 0, none⟩) k c) xs → Below base w0 w1 → wpList P ops Q rest (a.put o.dst (.tuple #[])) w1) : wpList P ops Q (o :: rest) a W := by
  obtain ⟨w1, hr, h2, h3⟩ := R_tail_run (P := P) d t e o.type ht z hz hzc hs0 h1 HO hm hkm (c2 := c2)
  refine wpList_plain hgd fun K hK => ?_
  unfold Oper.wp execOp
  simp only [ho, resolve, invoke, builtin, Sem.run_bind, Sem.run_pure, Result.andThen_ok, List.map_toArray, List.map_cons, List.map_nil, hx, hr]
  exact hK _ _ (h w1 h2 (HB.grown h3 hbase (fun k hk => by injection hk with hk; subst hk; exact Kd.R_base HO _ (by simp [Value.ownBlock]))))
end

/- slices.Delete over steps: a run of them taken out of a row of one's own. -/

theorem zero_step (w : World) : (zeroValue 43).run Try.prog w = .ok (.agg #[(.int .i64 0), (.int .i64 0), (.int .i64 0), (.int .i64 0), (.int .i64 0), (.slice none 0 0)]) w := by
 obtain ⟨i0, hi0, hz0, _, _⟩ := info_parts info43
 simp [zeroValue, typeInfo, hi0, hz0]
theorem zero_one : ∀ u ∈ (Value.agg #[(.int .i64 0), (.int .i64 0), (.int .i64 0), (.int .i64 0), (.int .i64 0), (.slice none 0 0)]).cells.toList, u.oneCell' = true := by
 intro u hu
 have e : (Value.agg #[(.int .i64 0), (.int .i64 0), (.int .i64 0), (.int .i64 0), (.int .i64 0), (.slice none 0 0)]).cells.toList = [(.int .i64 0), (.int .i64 0), (.int .i64 0), (.int .i64 0), (.int .i64 0), (.slice none 0 0)] := by kernel_rfl
 rw [e] at hu
 simp only [List.mem_cons, List.not_mem_nil, or_false] at hu
 rcases hu with rfl | rfl | rfl | rfl | rfl | rfl <;> rfl
theorem delete_calls (n c g base : Nat) (ok : Nat → Prop) (xs : List S43) (i j : Nat) (hij : i < j) (hjn : j ≤ n) (w : World) (hbs : base ≤ w.heap.size) (ho : Kd.R k43 43 w base ok (.slice (some ⟨g, 0, none⟩) n c) xs) :
  Calls Try.prog 68 #[.slice (some ⟨g, 0, none⟩) n c, .int .i64 (i : Int), .int .i64 (j : Int)] w fun e w' => e = .returned (.slice (some ⟨g, 0, none⟩) (n - (j - i)) c) ∧ Kd.R k43 43 w' base ok (.slice (some ⟨g, 0, none⟩) (n - (j - i)) c) (xs.take i ++ xs.drop j) ∧ Below base w w' := by
 obtain ⟨hn, hnc, hC⟩ := Kd.R_reads' ho
 have hmx : c ≤ 9223372036854775807 := by
  rcases ho.2 with ⟨inner, hown, _⟩
  rcases hown.2 with ⟨hv, _⟩ | ⟨g', cap', cur, hv, _, _, _, hcm, _⟩
  ·cases hv
  ·injection hv with _ _ hc
   subst hc
   simpa [maxLen] using hcm
 have HO := Aside0.mk ho
 have hut := Try.underlying32
 have hsz0 : (Try.prog.info? 43).map (·.size) = some 6 := by
  obtain ⟨i0, hi0, _, hs, _⟩ := info_parts info43
  rw [hi0, Option.map_some, hs]
 replace hbs := Aside0.mk hbs
 clear ho hC hn
 have h1 : (i : Int) ≤ (j : Int) := by omega
 have h2 : (j : Int) ≤ (n : Int) := by omega
 have h3 : (n : Int) ≤ (c : Int) := by omega
 have hic : i ≤ c := by omega
 have q1 : decide ((i : Int) = (j : Int)) = false := decide_eq_false (by omega)
 have q1b : decide (i = j) = false := decide_eq_false (by omega)
 have hA : (if c = j then some ⟨g, 0, none⟩ else some (⟨g, j * 6, none⟩ : Addr)) = if c = j then some (⟨g, 0, none⟩ : Addr) else (some (⟨g, 0, none⟩ : Addr)).map (·.add (j * k43.sz)) := by
  rw [Option.map_some, add_plain]
  rfl
 go_enter Try.func68, Try.ntmps68
 go_wp2
 refine start_ (n := 8) (S := fun w' => True) (ds := []) #[false, false, false, false, false, false, false, false] (by kernel_rfl) rfl rfl trivial (fun hHeld => ?_)
 refine pure_ (i := 0) (N := some 20) (v := ?_) (a' := ?_) #[true, false, false, false, false, false, false, false] rfl rfl (by kernel_rfl) (fun _ _ _ h => h) (Or.inl ⟨by rfl, ?_⟩) ?_ ?_
 rotate_left
 ·intro w'
  go_simp
  with_reducible rfl
 rotate_left
 ·simp only [Act.put, List.setIfInBounds_toArray, List.set_cons_zero, List.set_cons_succ, i64_w, i32_w]
  rfl
 refine pure_ (i := 1) (N := some 21) (v := ?_) (a' := ?_) #[true, true, false, false, false, false, false, false] rfl rfl (by kernel_rfl) (fun _ _ _ h => h) (Or.inl ⟨by rfl, ?_⟩) ?_ ?_
 rotate_left
 ·intro w'
  go_simp
  with_reducible rfl
 rotate_left
 ·simp only [Act.put, List.setIfInBounds_toArray, List.set_cons_zero, List.set_cons_succ, i64_w, i32_w]
  rfl
 refine pure_ (i := 2) (N := some 22) (v := ?_) (a' := ?_) #[true, true, true, false, false, false, false, false] rfl rfl (by kernel_rfl) (fun _ _ _ h => h) (Or.inl ⟨by rfl, ?_⟩) ?_ ?_
 rotate_left
 ·intro w'
  go_simp
  with_reducible rfl
 rotate_left
 ·simp only [Act.put, List.setIfInBounds_toArray, List.set_cons_zero, List.set_cons_succ, i64_w, i32_w]
  rfl
 refine pure_ (i := 3) (N := some 23) (v := ?_) (a' := ?_) #[true, true, true, true, false, false, false, false] rfl rfl (by kernel_rfl) (fun _ _ _ h => h) (Or.inl ⟨by rfl, ?_⟩) ?_ ?_
 rotate_left
 ·intro w'
  go_simp
  with_reducible rfl
 rotate_left
 ·simp only [Act.put, List.setIfInBounds_toArray, List.set_cons_zero, List.set_cons_succ, i64_w, i32_w]
  rfl
 refine pure_ (i := 4) (N := some 24) (v := ?_) (a' := ?_) #[true, true, true, true, true, false, false, false] rfl rfl (by kernel_rfl) (fun _ _ _ h => h) (Or.inl ⟨by rfl, ?_⟩) ?_ ?_
 rotate_left
 ·intro w'
  go_simp
  with_reducible rfl
 rotate_left
 ·simp only [Act.put, List.setIfInBounds_toArray, List.set_cons_zero, List.set_cons_succ, i64_w, i32_w]
  rfl
 refine pure_ (i := 5) (N := some 25) (v := ?_) (a' := ?_) #[true, true, true, true, true, true, false, false] rfl rfl (by kernel_rfl) (fun _ _ _ h => h) (Or.inl ⟨by rfl, ?_⟩) ?_ ?_
 rotate_left
 ·intro w'
  go_simp
  with_reducible rfl
 rotate_left
 ·simp only [Act.put, List.setIfInBounds_toArray, List.set_cons_zero, List.set_cons_succ, i64_w, i32_w]
  rfl
 refine one_ (i := 6) (N := some 26) #[true, true, true, true, true, true, true, false] rfl rfl (by kernel_rfl) (by decide) (fun K hK => ?_)
 refine R_cut_step (P := Try.prog) k43 (w0 := w) base (by rfl) (.tmp 22) (.tmp 25) 32 43 rfl Try.underlying32 hsz0 rfl rfl hA (Kd.R_drew HO.out) hij hjn (below_drew (Below.refl _ _)) hbs.out ?_
 intro w5 hR5 hB5 hg5
 have HO5 := Aside0.mk hR5
 have HB5 := Aside0.mk hB5
 have HG5 := Aside0.mk hg5
 clear hR5 hB5 hg5
 refine hK.out _ _ trivial (fun hHeld => ?_)
 clear hK K
 refine norm_ (a' := ?_) ?_ ?_
 rotate_left
 ·show Act.put _ (some 26) _ = _
  simp only [Act.put, List.setIfInBounds_toArray, List.set_cons_zero, List.set_cons_succ, i64_w, i32_w]
  rfl
 refine pure_ (i := 7) (N := some 0) (v := ?_) (a' := ?_) #[true, true, true, true, true, true, true, true] rfl rfl (by kernel_rfl) (fun _ _ _ h => h) (Or.inl ⟨by rfl, ?_⟩) ?_ ?_
 rotate_left
 ·intro w'
  go_simp
  with_reducible rfl
 rotate_left
 ·simp only [Act.put, List.setIfInBounds_toArray, List.set_cons_zero, List.set_cons_succ, i64_w, i32_w]
  rfl
 refine done_ (by kernel_rfl) ?_
 obtain ⟨k, hk⟩ : ∃ k, k = n - (j - i) := ⟨_, rfl⟩
 rw [← hk] at HO5 ⊢
 have hkn : (k : Int) ≤ (n : Int) := by omega
 have hck : ¬ c = k := by omega
 have hkc : k ≤ c := by omega
 have hmk : 0 < n - k := by omega
 have hkm : k + (n - k) ≤ c := by omega
 have hm2 := Aside0.mk hk
 clear hk hA h1 h2
 go_wp2_with (first
  | ((with_reducible refine gate_builtin (b := .clear) (xs := #[.tmp 31]) rfl ?_); refine R_tail (P := Try.prog) k43 (w0 := w) base rfl (.tmp 31) 32 43 rfl Try.underlying32 _ zero_step rfl (by show 0 < 6; decide) zero_one rfl HO5.out hmk hkm HB5.out (Nat.le_trans hbs.out HB5.out.size) ?_; intro w6 hR6 hB6; have HO6 := Aside0.mk hR6; have HB6 := Aside0.mk hB6; clear hR6 hB6))
 all_goals
  go_ret
  have e := hm2.out
  subst e
  first
   | exact ⟨rfl, HO6.out, HB6.out⟩
   | (subst_vars; exact ⟨rfl, HO6.out, HB6.out⟩)
end Go.Proofs.Ytgccpcnakkioiaa.Q

/- Plain words: numbers that do not wrap, elements of lists, rounds that are enough. -/
namespace Go.Proofs.Ytgccpcnakkioiaa.Pure
open Go.RowKit Go.Proofs.Ytgccpcnakkioiaa.Q Go.Proofs.YtgccpcnakkioiaaW.PrintWords Go.Proofs.YtgccpcnakkioiaaW.PrintLast Go.Proofs.YtgccpcnakkioiaaW.PrintMore
set_option linter.unusedVariables false
set_option linter.unusedSimpArgs false

theorem w64 {x : Int} (h1 : -9223372036854775808 ≤ x) (h2 : x ≤ 9223372036854775807) : wrap64 x = x := by unfold wrap64; omega
theorem w64n (n : Nat) (h : n < 9223372036854775807) : wrap64 ((n : Int) + 1) = ((n + 1 : Nat) : Int) := by unfold wrap64; omega
theorem rd_nat (l : List Int) (i : Nat) (h : i < l.length) : rd l (i : Int) = l[i] := by simp [rd, h]
theorem tdiv_nn (a b : Int) (h : 0 ≤ a) : Int.tdiv a b = a / b := Int.tdiv_eq_ediv_of_nonneg h
theorem tmod_nn (a b : Int) (h : 0 ≤ a) : Int.tmod a b = a % b := Int.tmod_eq_emod_of_nonneg h
theorem ev_of {α : Type} {g : Nat → Option α} {r : α} (K : Nat) (h : ∀ k, K < k → g k = some r) : Ev g r := ⟨K + 1, fun k hk => h k (by omega)⟩
theorem ev_const {α : Type} {o : Option α} {r : α} (h : o = some r) : Ev (fun _ => o) r := ⟨0, fun _ _ => h⟩
theorem ev_bind {α β : Type} {g : Nat → Option α} {f : Nat → α → Option β} {a : α} {r : β} (h : Ev g a) (k : Ev (fun n => f n a) r) : Ev (fun n => (g n).bind (f n)) r := Ev.bind h k
theorem ev_now {α β : Type} {o : Option α} {f : Nat → α → Option β} {a : α} {r : β} (h : o = some a) (k : Ev (fun n => f n a) r) : Ev (fun n => o.bind (f n)) r := Ev.bind (ev_const h) k
theorem ev_pos {α : Type} {c : Prop} [Decidable c] {f g : Nat → Option α} {r : α} (h : c) (k : Ev f r) : Ev (fun n => if c then f n else g n) r := by
 simpa [h] using k
theorem ev_neg {α : Type} {c : Prop} [Decidable c] {f g : Nat → Option α} {r : α} (h : ¬ c) (k : Ev g r) : Ev (fun n => if c then f n else g n) r := by
 simpa [h] using k
theorem ev_up {σ ρ : Type} (n : Nat) (L : Nat → Nat → σ → Option ρ) (Inv : Nat → σ → Prop) (F : Nat → σ → ρ)
  (step : ∀ i s, i < n → Inv i s → Ev (fun k => L k i s) (F i s) ∨ ∃ s', (∀ k, L (k + 1) i s = L k (i + 1) s') ∧ Inv (i + 1) s' ∧ F (i + 1) s' = F i s)
  (last : ∀ s, Inv n s → Ev (fun k => L k n s) (F n s)) :
  ∀ d i s, i + d = n → Inv i s → Ev (fun k => L k i s) (F i s) := by
 intro d
 induction d with
 | zero =>
  intro i s hi hinv
  have : i = n := by omega
  subst this
  exact last s hinv
 | succ d ih =>
  intro i s hi hinv
  rcases step i s (by omega) hinv with h | ⟨s', h, hi', hF⟩
  ·exact h
  ·rw [← hF]
   exact Ev.step h (ih (i + 1) s' (by omega) hi')
theorem ev_val {α : Type} {g : Nat → Option α} {r r' : α} (h : Ev g r) (e : r = r') : Ev g r' := e ▸ h
theorem take_set {α : Type} (s : List α) (i : Nat) (c : α) (h : i < s.length) : (s.set i c).take (i + 1) = s.take i ++ [c] := by
 rw [List.take_succ_eq_append_getElem (by simpa using h), List.take_set_of_le (Nat.le_refl i)]
 simp

/- Images: valid ones, as the program and the reference have it; copies of lists of numbers. -/

def byteI (n : Int) : Bool := decide (0 ≤ n) && decide (n ≤ 255)
theorem byteI_iff (n : Int) : byteI n = true ↔ 0 ≤ n ∧ n ≤ 255 := by simp [byteI]
def shapeI (w h p : Int) : Bool := decide (1 ≤ w ∧ w ≤ 16 ∧ 1 ≤ h ∧ h ≤ 16 ∧ 1 ≤ p ∧ p ≤ 4)
theorem shapeI_iff (w h p : Int) : shapeI w h p = true ↔ 1 ≤ w ∧ w ≤ 16 ∧ 1 ≤ h ∧ h ≤ 16 ∧ 1 ≤ p ∧ p ≤ 4 := by simp [shapeI]
def validI (w h p : Int) (d : List Int) : Bool := shapeI w h p && (decide ((d.length : Int) = w * h * p) && d.all byteI)
theorem validI_iff (w h p : Int) (d : List Int) : validI w h p d = true ↔ (1 ≤ w ∧ w ≤ 16 ∧ 1 ≤ h ∧ h ≤ 16 ∧ 1 ≤ p ∧ p ≤ 4) ∧ (d.length : Int) = w * h * p ∧ ∀ n ∈ d, 0 ≤ n ∧ n ≤ 255 := by
 simp [validI, shapeI_iff, byteI, and_assoc]
theorem shape_prod {w h p : Int} (hs : 1 ≤ w ∧ w ≤ 16 ∧ 1 ≤ h ∧ h ≤ 16 ∧ 1 ≤ p ∧ p ≤ 4) : 0 ≤ w * h ∧ w * h ≤ 256 ∧ 0 ≤ w * h * p ∧ w * h * p ≤ 1024 := by
 have h1 : 0 ≤ w * h := Int.mul_nonneg (by omega) (by omega)
 have h2 : w * h ≤ 16 * 16 := Int.mul_le_mul (by omega) (by omega) (by omega) (by omega)
 have h3 : 0 ≤ w * h * p := Int.mul_nonneg h1 (by omega)
 have h4 : w * h * p ≤ 256 * 4 := Int.mul_le_mul (by omega) (by omega) (by omega) (by omega)
 omega
theorem shape_wrap {w h p : Int} (hs : 1 ≤ w ∧ w ≤ 16 ∧ 1 ≤ h ∧ h ≤ 16 ∧ 1 ≤ p ∧ p ≤ 4) : wrap64 (wrap64 (w * h) * p) = w * h * p := by
 have := shape_prod hs
 rw [w64 (x := w * h) (by omega) (by omega), w64 (by omega) (by omega)]
theorem impl_isSide_eq (a : Int) : impl_isSide.f a = some (decide (1 ≤ a ∧ a ≤ 16)) := by
 unfold impl_isSide.f
 by_cases c : a ≥ 1
 ·rw [if_pos c]; congr 1; rw [decide_eq_decide]; omega
 ·rw [if_neg c, decide_eq_false (by omega)]
theorem impl_isShape_eq (w h p : Int) : impl_isShape.f w h p = some (shapeI w h p) := by
 unfold impl_isShape.f shapeI
 rw [impl_isSide_eq, impl_isSide_eq]
 simp only [Option.bind_some]
 by_cases c1 : 1 ≤ w ∧ w ≤ 16
 ·rw [if_pos (by simpa using c1)]
  by_cases c2 : 1 ≤ h ∧ h ≤ 16
  ·rw [if_pos (by simpa using c2)]
   by_cases c3 : p ≥ 1
   ·rw [if_pos c3]; congr 1; rw [decide_eq_decide]; omega
   ·rw [if_neg c3, decide_eq_false (by omega)]
  ·rw [if_neg (by simpa using c2), decide_eq_false (by omega)]
 ·rw [if_neg (by simpa using c1), decide_eq_false (by omega)]
theorem areBytesI_eq (l : List Int) : impl_areBytes.f l = some (l.all byteI) := by
 unfold impl_areBytes.f
 congr 1
 rw [List.not_any_eq_all_not]
 congr 1
 funext n
 unfold notByte byteI
 rw [Bool.eq_iff_iff]
 simp
theorem impl_isImage_eq (w h p : Int) (d : List Int) : impl_isImage.f w h p d = some (validI w h p d) := by
 unfold impl_isImage.f validI
 rw [impl_isShape_eq, areBytesI_eq]
 simp only [Option.bind_some]
 by_cases c : shapeI w h p = true
 ·rw [if_pos c, shape_wrap ((shapeI_iff w h p).1 c), c]
  by_cases e : (d.length : Int) = w * h * p
  ·rw [if_pos e, decide_eq_true e]; rfl
  ·rw [if_neg e, decide_eq_false e]; rfl
 ·rw [if_neg c, Bool.eq_false_iff.2 c]; rfl
theorem spec_inRangeI_eq (n a b : Int) : spec_inRange.f n a b = some (decide (a ≤ n) && decide (n ≤ b)) := by
 unfold spec_inRange.f
 by_cases c : a ≤ n
 ·rw [if_pos c, decide_eq_true c, Bool.true_and]
 ·rw [if_neg c, decide_eq_false c, Bool.false_and]
theorem spec_validShape_eq (w h p : Int) : spec_validShape.f w h p = some (shapeI w h p) := by
 unfold spec_validShape.f shapeI
 rw [spec_inRangeI_eq, spec_inRangeI_eq, spec_inRangeI_eq]
 simp only [Option.bind_some]
 by_cases c1 : 1 ≤ w ∧ w ≤ 16
 ·rw [if_pos (by simpa using c1)]
  by_cases c2 : 1 ≤ h ∧ h ≤ 16
  ·rw [if_pos (by simpa using c2)]; congr 1; rw [Bool.eq_iff_iff]; simp; omega
  ·rw [if_neg (by simpa using c2), decide_eq_false (by omega)]
 ·rw [if_neg (by simpa using c1), decide_eq_false (by omega)]
theorem spec_allInI_ev (l : List Int) (hl : l.length ≤ 1000000000000) : Ev (fun k => spec_allIn.f k l 0 255) (l.all byteI) := by
 have key := ev_up l.length (fun k i (_ : Unit) => spec_allIn.l0 k l 0 255 (i : Int)) (fun _ _ => True) (fun i _ => (l.drop i).all byteI)
  (by
   intro i s hi _
   have hd : (l.drop i).all byteI = (byteI l[i] && (l.drop (i + 1)).all byteI) := by rw [List.drop_eq_getElem_cons hi, List.all_cons]
   cases hb : byteI l[i] with
   | true =>
    right
    refine ⟨(), fun k => ?_, trivial, by rw [hd, hb, Bool.true_and]⟩
    simp only [spec_allIn.l0]
    rw [if_pos (by omega), if_pos (by omega), rd_nat l i hi, spec_inRangeI_eq]
    simp only [Option.bind_some]
    rw [if_pos (show (decide (0 ≤ l[i]) && decide (l[i] ≤ 255)) = true from hb), w64n i (by omega)]
   | false =>
    left
    rw [hd, hb, Bool.false_and]
    refine Ev.step (f := fun _ => some false) (fun k => ?_) (Ev.now false)
    simp only [spec_allIn.l0]
    rw [if_pos (by omega), if_pos (by omega), rd_nat l i hi, spec_inRangeI_eq]
    simp only [Option.bind_some]
    rw [if_neg (Bool.eq_false_iff.1 (show (decide (0 ≤ l[i]) && decide (l[i] ≤ 255)) = false from hb))])
  (by
   intro s _
   rw [List.drop_length]
   refine Ev.step (f := fun _ => some true) (fun k => ?_) (Ev.now true)
   simp only [spec_allIn.l0]
   rw [if_neg (by omega)])
  l.length 0 () (by omega) trivial
 unfold spec_allIn.f
 simpa using key
theorem spec_validImage_ev (w h p : Int) (d : List Int) (hl : d.length ≤ 1000000000000) : Ev (fun k => spec_validImage.f k w h p d) (validI w h p d) := by
 unfold spec_validImage.f validI
 refine ev_now (spec_validShape_eq w h p) ?_
 by_cases c : shapeI w h p = true
 ·refine ev_pos c ?_
  rw [shape_wrap ((shapeI_iff w h p).1 c), c, Bool.true_and]
  by_cases e : (d.length : Int) = w * h * p
  ·refine ev_pos e ?_
   rw [decide_eq_true e, Bool.true_and]
   exact ev_bind (spec_allInI_ev d hl) (Ev.now _)
  ·refine ev_neg e ?_
   rw [decide_eq_false e]
   exact Ev.now _
 ·refine ev_neg c ?_
  rw [Bool.eq_false_iff.2 c]
  exact Ev.now _
end Go.Proofs.Ytgccpcnakkioiaa.Pure
