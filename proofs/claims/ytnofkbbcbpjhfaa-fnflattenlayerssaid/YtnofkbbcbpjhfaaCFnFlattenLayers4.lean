/- A part of the proof that the statement FnFlattenLayersSaid holds, under no condition of its own: Layers cover one after the other: the law FnFlattenLayers over lists of numbers alone. -/
import Derived.Test.YtnofkbbcbpjhfaaCFnFlattenLayers1
import Derived.Test.YtnofkbbcbpjhfaaCFnFlattenLayers3
import Derived.Test.YtnofkbbcbpjhfaaCFnFlattenLayers2
namespace Go.Proofs.Ytnofkbbcbpjhfaa.Q
open Go.RowKit Go.Proofs.YtnofkbbcbpjhfaaW.PrintWords Go.Proofs.YtnofkbbcbpjhfaaW.PrintLast Go.Proofs.YtnofkbbcbpjhfaaW.PrintMore
open Go.Proofs.YtnofkbbcbpjhfaaW.PrintWords.Aside0 (mk)
attribute [local go_sem] max2_int min2_int max_two min_two max_three min_three max_four min_four
set_option linter.unusedVariables false
set_option linter.unusedSimpArgs false
def spec_anyLayers.l0 : Nat → Int → List S55 → Int → List Int → Int → Option ((List S55) × Int)
 | 0, _, _, _, _, _ => none
 | k + 1, x1, x5, x6, x1000, x1001 => if x6 > 0 then ((spec_randomLayer.f k x1000 x1001 (mx 1 (mn x1 4))).bind fun btz1 => ((spec_reader_pick.f k x1000 btz1.2.2.2.2.2.2.2.2.2 20).bind fun btz2 => (if btz2.1 = 0 then ((spec_anyLayer.f k x1000 btz2.2 x1).bind fun btz0 => (if x5.length < 1599289640401 then (spec_anyLayers.l0 k x1 (x5 ++ [(⟨(⟨btz0.1, btz0.2.1, btz0.2.2.1, btz0.2.2.2.1⟩ : S27), btz0.2.2.2.2.1, btz0.2.2.2.2.2.1, btz0.2.2.2.2.2.2.1, btz0.2.2.2.2.2.2.2.1, btz0.2.2.2.2.2.2.2.2.1⟩ : S55)]) (wrap64 (x6 - 1)) x1000 btz0.2.2.2.2.2.2.2.2.2) else none)) else (if x5.length < 1599289640401 then (spec_anyLayers.l0 k x1 (x5 ++ [(⟨(⟨btz1.1, btz1.2.1, btz1.2.2.1, btz1.2.2.2.1⟩ : S27), btz1.2.2.2.2.1, btz1.2.2.2.2.2.1, btz1.2.2.2.2.2.2.1, btz1.2.2.2.2.2.2.2.1, btz1.2.2.2.2.2.2.2.2.1⟩ : S55)]) (wrap64 (x6 - 1)) x1000 btz2.2) else none)))) else (some (x5, x1001))
def spec_anyLayers.f (k : Nat) (s0_0 : List Int) (s0_1 : Int) (a1 : Int) : Option ((List S55) × Int) := (spec_reader_one.f k s0_0 s0_1 ([1, 2, 3, 0, 6, 7] : List Int)).bind fun btz3 => (spec_anyLayers.l0 k a1 (([] : List S55)) btz3.1 s0_0 btz3.2)
theorem spec_anyLayers.mono_l : ∀ k, (∀ y0 y1 y2 y3 y4, LeO (spec_anyLayers.l0 k y0 y1 y2 y3 y4) (spec_anyLayers.l0 (k + 1) y0 y1 y2 y3 y4))
 | 0 => fun _ _ _ _ _ r h => by simp [spec_anyLayers.l0] at h
 | k + 1 => by
  have ih0 := spec_anyLayers.mono_l k
  ·intro y0 y1 y2 y3 y4
   unfold spec_anyLayers.l0
   repeat' first | (with_reducible exact ih0 _ _ _ _ _) | (with_reducible exact spec_anyLayer.mono _ _ _ _) | (with_reducible exact spec_randomLayer.mono _ _ _ _) | (with_reducible exact spec_reader_pick.mono _ _ _ _) | (with_reducible exact LeO.refl _) | (with_reducible refine LeO.ite ?_ ?_) | (with_reducible refine LeO.bind ?_ (fun _ => ?_))
theorem spec_anyLayers.mono : ∀ a0 a1 a2 k, LeO (spec_anyLayers.f k a0 a1 a2) (spec_anyLayers.f (k + 1) a0 a1 a2) := by
 intro a0 a1 a2 k
 have ih0 := spec_anyLayers.mono_l k
 unfold spec_anyLayers.f
 repeat' first | (with_reducible exact ih0 _ _ _ _ _) | (with_reducible exact spec_reader_one.mono _ _ _ _) | (with_reducible refine LeO.bind ?_ (fun _ => ?_))
set_option maxHeartbeats 8000000 in
set_option maxRecDepth 100000 in
theorem spec_anyLayers.calls (k : Nat) (g : Nat) (s0_0 : List Int) (s0_1 : Int) (a1 : Int) (r1 : List S55) (r2 : Int) (w0 w : World) (hI : IsS144 w0 w g s0_0 s0_1) (hB : Below w0.heap.size w0 w) (h : spec_anyLayers.f k s0_0 s0_1 a1 = some (r1, r2)) :
  Calls Try.prog 120 #[.pointer (some ⟨g, 0, none⟩), .int .i64 a1] w fun e w' => ∃ v0_ : Value, e = .returned v0_ ∧ Kd.N k55 55 w' w.heap.size (fun k_ => (w.heap.size ≤ k_)) v0_ r1 ∧ IsS144 w0 w' g s0_0 r2 ∧ Below w0.heap.size w0 w' ∧ KeepBut w w' g none := by
 have hu55 := Try.underlying55
 have HI0 := mk hI
 have HK := mk (KeepBut.refl w g none)
 have HL := mk hB.size
 clear hI
 have HW0 := mk hB.size
 have HB := mk hB
 clear hB
 have H : ((spec_reader_one.f k s0_0 s0_1 ([1, 2, 3, 0, 6, 7] : List Int)).bind fun btz3 => (spec_anyLayers.l0 k a1 (([] : List S55)) btz3.1 s0_0 btz3.2)) = some (r1, r2) := h
 clear h
 obtain ⟨yz0, hyz0⟩ : ∃ y_ : List (S55), y_ = (([] : List S55)) := ⟨_, rfl⟩
 replace H : ((spec_reader_one.f k s0_0 s0_1 ([1, 2, 3, 0, 6, 7] : List Int)).bind fun btz3 => (spec_anyLayers.l0 k a1 yz0 btz3.1 s0_0 btz3.2)) = some (r1, r2) := by (rw [hyz0]; with_reducible exact H)
 have Nyz0 := mk hyz0
 clear hyz0
 obtain ⟨yz1, hyz1⟩ : ∃ y_ : List Int, y_ = ([1, 2, 3, 0, 6, 7] : List Int) := ⟨_, rfl⟩
 replace H : ((spec_reader_one.f k s0_0 s0_1 yz1).bind fun btz3 => (spec_anyLayers.l0 k a1 yz0 btz3.1 s0_0 btz3.2)) = some (r1, r2) := by (rw [hyz1]; with_reducible exact H)
 have Nyz1 := mk hyz1
 clear hyz1
 replace H := Option.bind_eq_some_iff.mp H
 obtain ⟨⟨tz22, tz23⟩, A30, H⟩ := H
 replace H : (spec_anyLayers.l0 k a1 yz0 tz22 s0_0 tz23) = some (r1, r2) := H
 have A3 := mk A30
 clear A30
 have H' := mk H
 clear H
 go_enter Try.func120, Try.ntmps120
 go_wp2_with (first | ((with_reducible refine gate_dst (N := 8) rfl ?_); refine Kd.N_lit k55 _ 55 ?hg (N' := 8) ?hd (xs := ([] : List S55)) (inner := []) (ok := (fun k_ => (w.heap.size ≤ k_) ∧ k_ ≠ g)) (okp := (fun k_ => (w.heap.size ≤ k_) ∧ k_ ≠ g)) ?hr ?hp (fun _ hk => hk) ((show ∀ k_, w.heap.size ≤ k_ → (fun k_ => (w.heap.size ≤ k_) ∧ k_ ≠ g) k_ from fun k_ hk => ⟨(Nat.le_trans (keep_size (w := w) (g := g) (row := none) HK.out) hk), IsS144.fresh HI0.out k_ hk⟩) _ (Nat.le_refl _)) (Below.refl _ _) (Nat.le_refl _) (by simp) ?_; (case hd => rfl); (case hg => rfl); (case hr => (go_simp; done)); (case hp => exact (Reps.none _ _)); intro vz1 w4 ho5 hb hg_ hnew_; clear hg_ hnew_; (rw [← Nyz0.out] at ho5); have HOz2 := mk (Kd.N_lower ho5 (keep_size (w := w) (g := g) (row := none) HK.out)); replace HI0 := mk (IsS144.below HI0.out hb); replace HK := mk (KeepBut.trans HK.out (KeepBut.of_below hb g none) (.inl rfl)); replace HB := mk (below_step HB.out hb); clear hb ho5) | ((with_reducible refine gate_dst (N := 10) rfl ?_); refine Kd.R_lit (Kd.int .i64) _ 3 ?hg (N := 10) ?hd (xs := ([1, 2, 3, 0, 6, 7] : List Int)) (inner := [.int .i64 1, .int .i64 2, .int .i64 3, .int .i64 0, .int .i64 6, .int .i64 7]) (ok := fun _ => True) (okp := fun _ => True) ?hr ?hp (fun _ hk => hk) trivial (Below.refl _ _) (Nat.le_refl _) (by simp) ?_; (case hd => rfl); (case hg => rfl); (case hr => (go_simp; done)); (case hp => exact (Reps.one (show Kd.M (Kd.int .i64) _ _ _ 1 [.int .i64 1] from rfl) (Reps.one (show Kd.M (Kd.int .i64) _ _ _ 2 [.int .i64 2] from rfl) (Reps.one (show Kd.M (Kd.int .i64) _ _ _ 3 [.int .i64 3] from rfl) (Reps.one (show Kd.M (Kd.int .i64) _ _ _ 0 [.int .i64 0] from rfl) (Reps.one (show Kd.M (Kd.int .i64) _ _ _ 6 [.int .i64 6] from rfl) (Reps.one (show Kd.M (Kd.int .i64) _ _ _ 7 [.int .i64 7] from rfl) (Reps.none _ _)))))))); intro vz2 w6 ho7 hb hg_ hnew_; clear hg_ hnew_; (rw [← Nyz1.out] at ho7); replace HOz2 := mk (Kd.N_elder' HOz2.out (Kd.R_base ho7) hb); have HOz3 := mk (Kd.R_lower (Kd.R_newM (M := fun k_ => (w.heap.size ≤ k_)) ho7 (keep_size (w := w) (g := g) (row := none) HK.out) (fun k_ h_ => h_)) (keep_size (w := w) (g := g) (row := none) HK.out)); replace HI0 := mk (IsS144.below HI0.out hb); replace HK := mk (KeepBut.trans HK.out (KeepBut.of_below hb g none) (.inl rfl)); replace HB := mk (below_step HB.out hb); clear hb ho7; obtain ⟨Ao8, co8, eo8⟩ := Kd.R_slice HOz3.out; subst eo8) | ((with_reducible refine gate_callee (f := 147) rfl ?_); refine goesL_ (some 11) rfl rfl Try.func147 (by kernel_rfl) rfl #[.pointer (some ⟨g, 0, none⟩), .slice Ao8 yz1.length co8] rfl (by (try simp only [List.map_toArray, List.map_cons, List.map_nil]); rfl) ?_; (with_reducible refine (spec_reader_one.calls k g s0_0 s0_1 _ _ yz1 tz22 tz23 w0 _ ?side1 ?side2 ?side3 ?side4 ?side5 A3.out).mono ?_); (case side1 => repeat (with_reducible exact HI0.out)); (case side2 => repeat (with_reducible exact HB.out)); (case side3 => repeat (exact (Kd.R_reads' HOz3.out).2.2)); (case side4 => exact (Kd.R_reads' HOz3.out).2.1); (case side5 => exact far_slice (IsS144.own_ne HI0.out HOz3.out (by decide))); rintro e w9 ⟨rfl, hi, hb, hk⟩; refine ⟨_, rfl, ?_⟩; have n0_ := mk (Kd.N_mono (Kd.N_keep (Kd.N_mono (ok := fun k_ => (((w.heap.size ≤ k_) ∧ k_ ≠ g) ∧ some k_ ≠ (.slice Ao8 yz1.length co8 : Value).ownBlock)) HOz2.out (fun k_ hk_ => (⟨hk_, hk_.1.2⟩ : _ ∧ k_ ≠ g))) hk (fun _ h => h.2)) (fun _ h => h.1)); have n2_ := mk (KeepBut.trans HK.out hk (.inl rfl)); have n3_ := mk (hb); have n4_ := mk (hi); clear HOz2; clear HOz3; clear HK; clear HB; clear HI0; have HOz2 := n0_; have HK := n2_; have HB := n3_; have HI0 := n4_; (try clear hb); (try clear hk); (try clear hi)))
 go_loopg [5, 6] k (fun kq v5 v6 w' => ∃ (x5_1 : List S55) (x6_1 : Int) (x1001_1 : Int), v6 = .int .i64 x6_1 ∧ Aside0 (spec_anyLayers.l0 kq a1 x5_1 x6_1 s0_0 x1001_1 = some (r1, r2)) ∧ Aside0 (kq ≤ k) ∧ Aside0 (Kd.N k55 55 w' w.heap.size (fun k_ => (w.heap.size ≤ k_) ∧ k_ ≠ g) v5 x5_1) ∧ Aside0 (IsS144 w0 w' g s0_0 x1001_1) ∧ Aside0 (KeepBut w w' g none) ∧ Aside0 (Below w0.heap.size w0 w'))
 case atStart => exact ⟨(yz0), (tz22), (tz23), (by rfl), H', ⟨Nat.le_refl _⟩, ⟨by exact Kd.N_mono HOz2.out (fun _ hk => ⟨hk.1.1, hk.1.2⟩)⟩, HI0, HK, HB⟩
 case round =>
  clear H'
  obtain ⟨x5_1, x6_1, x1001_1, rfl, HA, HK1, HO_5, HI0, HK, HB⟩ := hrel
  cases gk with
  | zero => exact absurd HA.out (by simp [spec_anyLayers.l0])
  | succ k1 =>
   have H := HA.out
   clear HA
   simp only [spec_anyLayers.l0] at H
   by_cases c10 : x6_1 > 0
   ·rw [if_pos c10] at H
    have c10b0 : decide (0 < x6_1) = true := decide_eq_true c10
    clear c10
    obtain ⟨ji11, hji11⟩ : ∃ j_ : Int, (mn a1 4) = j_ := ⟨_, rfl⟩
    replace H : ((spec_randomLayer.f k1 s0_0 x1001_1 (mx 1 ji11)).bind fun btz1 => ((spec_reader_pick.f k1 s0_0 btz1.2.2.2.2.2.2.2.2.2 20).bind fun btz2 => (if btz2.1 = 0 then ((spec_anyLayer.f k1 s0_0 btz2.2 a1).bind fun btz0 => (if x5_1.length < 1599289640401 then (spec_anyLayers.l0 k1 a1 (x5_1 ++ [(⟨(⟨btz0.1, btz0.2.1, btz0.2.2.1, btz0.2.2.2.1⟩ : S27), btz0.2.2.2.2.1, btz0.2.2.2.2.2.1, btz0.2.2.2.2.2.2.1, btz0.2.2.2.2.2.2.2.1, btz0.2.2.2.2.2.2.2.2.1⟩ : S55)]) (wrap64 (x6_1 - 1)) s0_0 btz0.2.2.2.2.2.2.2.2.2) else none)) else (if x5_1.length < 1599289640401 then (spec_anyLayers.l0 k1 a1 (x5_1 ++ [(⟨(⟨btz1.1, btz1.2.1, btz1.2.2.1, btz1.2.2.2.1⟩ : S27), btz1.2.2.2.2.1, btz1.2.2.2.2.2.1, btz1.2.2.2.2.2.2.1, btz1.2.2.2.2.2.2.2.1, btz1.2.2.2.2.2.2.2.2.1⟩ : S55)]) (wrap64 (x6_1 - 1)) s0_0 btz2.2) else none)))) = some (r1, r2) := by (rw [hji11] at H; exact H)
    (try (have hji11h : ji11 ≤ 4 := by (rw [← hji11]; unfold mn; (repeat' split) <;> omega)))
    (try (have hji11g : ji11 ≤ 64 := by omega))
    have hji11_ : (if 4 < a1 then 4 else a1) = ji11 := hji11
    obtain ⟨ji12, hji12⟩ : ∃ j_ : Int, (mx 1 ji11) = j_ := ⟨_, rfl⟩
    replace H : ((spec_randomLayer.f k1 s0_0 x1001_1 ji12).bind fun btz1 => ((spec_reader_pick.f k1 s0_0 btz1.2.2.2.2.2.2.2.2.2 20).bind fun btz2 => (if btz2.1 = 0 then ((spec_anyLayer.f k1 s0_0 btz2.2 a1).bind fun btz0 => (if x5_1.length < 1599289640401 then (spec_anyLayers.l0 k1 a1 (x5_1 ++ [(⟨(⟨btz0.1, btz0.2.1, btz0.2.2.1, btz0.2.2.2.1⟩ : S27), btz0.2.2.2.2.1, btz0.2.2.2.2.2.1, btz0.2.2.2.2.2.2.1, btz0.2.2.2.2.2.2.2.1, btz0.2.2.2.2.2.2.2.2.1⟩ : S55)]) (wrap64 (x6_1 - 1)) s0_0 btz0.2.2.2.2.2.2.2.2.2) else none)) else (if x5_1.length < 1599289640401 then (spec_anyLayers.l0 k1 a1 (x5_1 ++ [(⟨(⟨btz1.1, btz1.2.1, btz1.2.2.1, btz1.2.2.2.1⟩ : S27), btz1.2.2.2.2.1, btz1.2.2.2.2.2.1, btz1.2.2.2.2.2.2.1, btz1.2.2.2.2.2.2.2.1, btz1.2.2.2.2.2.2.2.2.1⟩ : S55)]) (wrap64 (x6_1 - 1)) s0_0 btz2.2) else none)))) = some (r1, r2) := by (rw [hji12] at H; exact H)
    have hji12_ : (if 1 < ji11 then ji11 else 1) = ji12 := hji12
    replace H := Option.bind_eq_some_iff.mp H
    obtain ⟨⟨tz1, tz2, tz3, tz0, tz4, tz5, tz6, tz7, tz8, tz18⟩, A130, H⟩ := H
    replace H : ((spec_reader_pick.f k1 s0_0 tz18 20).bind fun btz2 => (if btz2.1 = 0 then ((spec_anyLayer.f k1 s0_0 btz2.2 a1).bind fun btz0 => (if x5_1.length < 1599289640401 then (spec_anyLayers.l0 k1 a1 (x5_1 ++ [(⟨(⟨btz0.1, btz0.2.1, btz0.2.2.1, btz0.2.2.2.1⟩ : S27), btz0.2.2.2.2.1, btz0.2.2.2.2.2.1, btz0.2.2.2.2.2.2.1, btz0.2.2.2.2.2.2.2.1, btz0.2.2.2.2.2.2.2.2.1⟩ : S55)]) (wrap64 (x6_1 - 1)) s0_0 btz0.2.2.2.2.2.2.2.2.2) else none)) else (if x5_1.length < 1599289640401 then (spec_anyLayers.l0 k1 a1 (x5_1 ++ [(⟨(⟨tz1, tz2, tz3, tz0⟩ : S27), tz4, tz5, tz6, tz7, tz8⟩ : S55)]) (wrap64 (x6_1 - 1)) s0_0 btz2.2) else none))) = some (r1, r2) := H
    have A13 := mk A130
    clear A130
    replace H := Option.bind_eq_some_iff.mp H
    obtain ⟨⟨tz19, tz20⟩, A140, H⟩ := H
    replace H : (if tz19 = 0 then ((spec_anyLayer.f k1 s0_0 tz20 a1).bind fun btz0 => (if x5_1.length < 1599289640401 then (spec_anyLayers.l0 k1 a1 (x5_1 ++ [(⟨(⟨btz0.1, btz0.2.1, btz0.2.2.1, btz0.2.2.2.1⟩ : S27), btz0.2.2.2.2.1, btz0.2.2.2.2.2.1, btz0.2.2.2.2.2.2.1, btz0.2.2.2.2.2.2.2.1, btz0.2.2.2.2.2.2.2.2.1⟩ : S55)]) (wrap64 (x6_1 - 1)) s0_0 btz0.2.2.2.2.2.2.2.2.2) else none)) else (if x5_1.length < 1599289640401 then (spec_anyLayers.l0 k1 a1 (x5_1 ++ [(⟨(⟨tz1, tz2, tz3, tz0⟩ : S27), tz4, tz5, tz6, tz7, tz8⟩ : S55)]) (wrap64 (x6_1 - 1)) s0_0 tz20) else none)) = some (r1, r2) := H
    have A14 := mk A140
    clear A140
    by_cases c15 : tz19 = 0
    ·rw [if_pos c15] at H
     have c15b0 : (tz19 == 0) = true := beq_iff_eq.mpr c15
     have c15b1 : (tz19 != 0) = false := bne_eq_false_iff_eq.mpr c15
     clear c15
     replace H := Option.bind_eq_some_iff.mp H
     obtain ⟨⟨tz10, tz11, tz12, tz9, tz13, tz14, tz15, tz16, tz17, tz21⟩, A160, H⟩ := H
     replace H : (if x5_1.length < 1599289640401 then (spec_anyLayers.l0 k1 a1 (x5_1 ++ [(⟨(⟨tz10, tz11, tz12, tz9⟩ : S27), tz13, tz14, tz15, tz16, tz17⟩ : S55)]) (wrap64 (x6_1 - 1)) s0_0 tz21) else none) = some (r1, r2) := H
     have A16 := mk A160
     clear A160
     by_cases c17 : x5_1.length < 1599289640401
     ·rw [if_pos c17] at H
      have LMc17 := mk c17
      clear c17
      obtain ⟨yz2, hyz2⟩ : ∃ y_ : List (S55), y_ = (x5_1 ++ [(⟨(⟨tz10, tz11, tz12, tz9⟩ : S27), tz13, tz14, tz15, tz16, tz17⟩ : S55)]) := ⟨_, rfl⟩
      replace H : (spec_anyLayers.l0 k1 a1 yz2 (wrap64 (x6_1 - 1)) s0_0 tz21) = some (r1, r2) := by (rw [hyz2]; with_reducible exact H)
      have Nyz2 := mk hyz2
      clear hyz2
      have H' := mk H
      clear H
      go_wp2_with (first | ((with_reducible refine gate_callee (f := 146) rfl ?_); refine goesL_ (some 20) rfl rfl Try.func146 (by kernel_rfl) rfl #[.pointer (some ⟨g, 0, none⟩), .int .i64 ji12] rfl (by (try simp only [List.map_toArray, List.map_cons, List.map_nil]); rfl) ?_; (with_reducible refine (spec_randomLayer.calls k1 g s0_0 x1001_1 ji12 tz1 tz2 tz3 tz0 tz4 tz5 tz6 tz7 tz8 tz18 w0 _ ?side1 ?side2 A13.out).mono ?_); (case side1 => repeat (with_reducible exact HI0.out)); (case side2 => repeat (with_reducible exact HB.out)); rintro e w18 ⟨vz0, rfl, ho0, hi, hb, hk⟩; refine ⟨_, rfl, ?_⟩; replace HO_5 := mk (Kd.N_mono (Kd.N_told (Kd.N_oldK (Kd.N_mono (ok := fun k_ => ((w.heap.size ≤ k_) ∧ k_ ≠ g)) HO_5.out (fun k_ hk_ => (⟨hk_, hk_.2⟩ : _ ∧ k_ ≠ g))) hk) (Kd.R_base ho0)) (fun _ h_ => h_.1)); have HOz0 := mk (Kd.R_lower (Kd.R_newM (M := fun k_ => (w.heap.size ≤ k_)) ho0 (keep_size (w := w) (g := g) (row := none) HK.out) (fun k_ h_ => h_)) (keep_size (w := w) (g := g) (row := none) HK.out)); replace HK := mk (KeepBut.trans HK.out hk (.inl rfl)); replace HB := mk (hb); replace HI0 := mk (hi); (try clear hb); (try clear hk); (try clear hi); (try clear ho0)) | ((with_reducible refine gate_dst (N := 7) rfl ?_); refine box_event (by rfl) (N := 7) (by rfl) (cs := #[.int .i64 0, .int .i64 0, .int .i64 0, .slice none 0 0, .int .i64 0, .int .i64 0, .int .i64 0, .int .i64 0, .bool false]) (t := 55) (by go_simp; done) ?_; intro gbz0 hg w19 hbox hb; replace HO_5 := mk (Kd.N_below (Kd.N_elderB HO_5.out gbz0 (Nat.le_of_eq hg.symm)) hb); replace HOz0 := mk (Kd.R_below HOz0.out hb); replace HB := mk (below_step HB.out hb); have BKz0 := mk (hbox); have GWz0 := mk ((by rw [hg]; exact (keep_size (w := w) (g := g) (row := none) HK.out) : w.heap.size ≤ gbz0)); have GEz0 := mk ((Nat.le_trans HW0.out (by rw [hg]; exact (keep_size (w := w) (g := g) (row := none) HK.out) : w.heap.size ≤ gbz0) : w0.heap.size ≤ gbz0)); replace HK := mk (KeepBut.trans HK.out (KeepBut.of_below hb g none) (.inl rfl)); have NBz0 := mk ((by rw [hg]; exact Nat.ne_of_lt (IsS144.lt (show IsS144 w0 _ g s0_0 tz18 from by exact HI0.out)) : g ≠ gbz0)); have NBz1 := mk ((by rw [hg]; exact Nat.ne_of_gt (IsS144.lt (show IsS144 w0 _ g s0_0 tz18 from by exact HI0.out)) : gbz0 ≠ g)); replace HI0 := mk (IsS144.below HI0.out hb); clear hb hbox hg; obtain ⟨hcz21_0, hcz21_1, hcz21_2, hcz21_3, hcz21_4, hcz21_5, hcz21_6, hcz21_7, hcz21_8, hfz21_0, hfz21_1, hfz21_2, hfz21_3, hfz21_4, hfz21_5, hfz21_6, hfz21_7, hfz21_8⟩ := c9 BKz0.out; obtain ⟨Ao22, co22, eo22⟩ := Kd.R_slice HOz0.out; subst eo22) | ((with_reducible refine gate_callee (f := 127) rfl ?_); refine goesL_ (some 22) rfl rfl Try.func127 (by kernel_rfl) rfl #[.pointer (some ⟨g, 0, none⟩), .int .i64 20] rfl (by (try simp only [List.map_toArray, List.map_cons, List.map_nil]); rfl) ?_; (with_reducible refine (spec_reader_pick.calls k1 g s0_0 tz18 20 tz19 tz20 w0 _ ?side1 ?side2 A14.out).mono ?_); (case side1 => repeat (with_reducible first | exact HI0.out | refine IsS144.far ?_ NBz0.out _)); (case side2 => repeat (with_reducible first | exact HB.out | refine below_set ?_ GEz0.out)); rintro e w23 ⟨rfl, hi, hb, hk⟩; refine ⟨_, rfl, ?_⟩; replace HO_5 := mk (Kd.N_mono (Kd.N_keep (Kd.N_mono (ok := fun k_ => ((((w.heap.size ≤ k_) ∧ k_ ≠ g) ∧ some k_ ≠ (.slice Ao22 tz0.length co22 : Value).ownBlock) ∧ k_ ≠ gbz0)) (by exact (Kd.N_mono (Kd.N_far (p := ⟨gbz0, 8, none⟩) (Kd.N_far (p := ⟨gbz0, 7, none⟩) (Kd.N_far (p := ⟨gbz0, 6, none⟩) (Kd.N_far (p := ⟨gbz0, 5, none⟩) (Kd.N_far (p := ⟨gbz0, 4, none⟩) (Kd.N_far (p := ⟨gbz0, 3, none⟩) (Kd.N_far (p := ⟨gbz0, 2, none⟩) (Kd.N_far (p := ⟨gbz0, 1, none⟩) (Kd.N_far (p := ⟨gbz0, 0, none⟩) (Kd.N_mono HO_5.out (fun k_ hk => (⟨hk, hk.2⟩ : _ ∧ k_ ≠ gbz0))) (fun _ hk => hk.2) (.int .i64 tz1)) (fun _ hk => hk.2) (.int .i64 tz2)) (fun _ hk => hk.2) (.int .i64 tz3)) (fun _ hk => hk.2) (.slice Ao22 tz0.length co22)) (fun _ hk => hk.2) (.int .i64 tz4)) (fun _ hk => hk.2) (.int .i64 tz5)) (fun _ hk => hk.2) (.int .i64 tz6)) (fun _ hk => hk.2) (.int .i64 tz7)) (fun _ hk => hk.2) (.bool tz8)) (fun _ h_ => h_.1))) (fun k_ hk_ => (⟨hk_, hk_.1.1.2⟩ : _ ∧ k_ ≠ g))) hk (fun _ h => h.2)) (fun _ h => h.1)); replace HOz0 := mk (Kd.R_mono (Kd.R_keep (IsS144.apart (show IsS144 w0 _ g s0_0 tz18 from by repeat (with_reducible first | exact HI0.out | refine IsS144.far ?_ NBz0.out _)) (by exact (Kd.R_mono (Kd.R_far (p := ⟨gbz0, 8, none⟩) (Kd.R_far (p := ⟨gbz0, 7, none⟩) (Kd.R_far (p := ⟨gbz0, 6, none⟩) (Kd.R_far (p := ⟨gbz0, 5, none⟩) (Kd.R_far (p := ⟨gbz0, 4, none⟩) (Kd.R_far (p := ⟨gbz0, 3, none⟩) (Kd.R_far (p := ⟨gbz0, 2, none⟩) (Kd.R_far (p := ⟨gbz0, 1, none⟩) (Kd.R_far (p := ⟨gbz0, 0, none⟩) (Kd.R_types HOz0.out BKz0.out (by decide)) (fun _ hk => hk.2) (.int .i64 tz1)) (fun _ hk => hk.2) (.int .i64 tz2)) (fun _ hk => hk.2) (.int .i64 tz3)) (fun _ hk => hk.2) (.slice Ao22 tz0.length co22)) (fun _ hk => hk.2) (.int .i64 tz4)) (fun _ hk => hk.2) (.int .i64 tz5)) (fun _ hk => hk.2) (.int .i64 tz6)) (fun _ hk => hk.2) (.int .i64 tz7)) (fun _ hk => hk.2) (.bool tz8)) (fun _ h_ => h_.1))) (by decide)) hk (fun _ h => h.2)) (fun _ h => h.1)); replace BKz0 := mk (KeepBut.blk hk (g' := gbz0) (o := .cells #[.int .i64 tz1, .int .i64 tz2, .int .i64 tz3, .slice Ao22 tz0.length co22, .int .i64 tz4, .int .i64 tz5, .int .i64 tz6, .int .i64 tz7, .bool tz8] 55 (0, 0)) (by refine blk_put (cs := #[.int .i64 tz1, .int .i64 tz2, .int .i64 tz3, .slice Ao22 tz0.length co22, .int .i64 tz4, .int .i64 tz5, .int .i64 tz6, .int .i64 tz7, .bool false]) ?_ 8 _ rfl; refine blk_put (cs := #[.int .i64 tz1, .int .i64 tz2, .int .i64 tz3, .slice Ao22 tz0.length co22, .int .i64 tz4, .int .i64 tz5, .int .i64 tz6, .int .i64 0, .bool false]) ?_ 7 _ rfl; refine blk_put (cs := #[.int .i64 tz1, .int .i64 tz2, .int .i64 tz3, .slice Ao22 tz0.length co22, .int .i64 tz4, .int .i64 tz5, .int .i64 0, .int .i64 0, .bool false]) ?_ 6 _ rfl; refine blk_put (cs := #[.int .i64 tz1, .int .i64 tz2, .int .i64 tz3, .slice Ao22 tz0.length co22, .int .i64 tz4, .int .i64 0, .int .i64 0, .int .i64 0, .bool false]) ?_ 5 _ rfl; refine blk_put (cs := #[.int .i64 tz1, .int .i64 tz2, .int .i64 tz3, .slice Ao22 tz0.length co22, .int .i64 0, .int .i64 0, .int .i64 0, .int .i64 0, .bool false]) ?_ 4 _ rfl; refine blk_put (cs := #[.int .i64 tz1, .int .i64 tz2, .int .i64 tz3, .slice none 0 0, .int .i64 0, .int .i64 0, .int .i64 0, .int .i64 0, .bool false]) ?_ 3 _ rfl; refine blk_put (cs := #[.int .i64 tz1, .int .i64 tz2, .int .i64 0, .slice none 0 0, .int .i64 0, .int .i64 0, .int .i64 0, .int .i64 0, .bool false]) ?_ 2 _ rfl; refine blk_put (cs := #[.int .i64 tz1, .int .i64 0, .int .i64 0, .slice none 0 0, .int .i64 0, .int .i64 0, .int .i64 0, .int .i64 0, .bool false]) ?_ 1 _ rfl; refine blk_put (cs := #[.int .i64 0, .int .i64 0, .int .i64 0, .slice none 0 0, .int .i64 0, .int .i64 0, .int .i64 0, .int .i64 0, .bool false]) ?_ 0 _ rfl; exact BKz0.out) NBz1.out (by simp)); replace HK := mk (KeepBut.trans (by repeat (with_reducible first | exact HK.out | refine keep_far ?_ GWz0.out _)) hk (.inl rfl)); replace HB := mk (hb); replace HI0 := mk (hi); (try clear hb); (try clear hk); (try clear hi)) | ((with_reducible refine gate_callee (f := 115) rfl ?_); refine goesL_ (some 26) rfl rfl Try.func115 (by kernel_rfl) rfl #[.pointer (some ⟨g, 0, none⟩), .int .i64 a1] rfl (by (try simp only [List.map_toArray, List.map_cons, List.map_nil]); rfl) ?_; (with_reducible refine (spec_anyLayer.calls k1 g s0_0 tz20 a1 tz10 tz11 tz12 tz9 tz13 tz14 tz15 tz16 tz17 tz21 w0 _ ?side1 ?side2 A16.out).mono ?_); (case side1 => repeat (with_reducible exact HI0.out)); (case side2 => repeat (with_reducible exact HB.out)); rintro e w24 ⟨vz3, rfl, ho0, hi, hb, hk⟩; refine ⟨_, rfl, ?_⟩; replace HO_5 := mk (Kd.N_mono (Kd.N_told (Kd.N_oldK (Kd.N_mono (ok := fun k_ => ((((w.heap.size ≤ k_) ∧ k_ ≠ g) ∧ some k_ ≠ (.slice Ao22 tz0.length co22 : Value).ownBlock) ∧ k_ ≠ gbz0)) HO_5.out (fun k_ hk_ => (⟨hk_, hk_.1.1.2⟩ : _ ∧ k_ ≠ g))) hk) (Kd.Q_base ho0)) (fun _ h_ => h_.1)); replace BKz0 := mk (KeepBut.blk hk (g' := gbz0) (o := .cells #[.int .i64 tz1, .int .i64 tz2, .int .i64 tz3, .slice Ao22 tz0.length co22, .int .i64 tz4, .int .i64 tz5, .int .i64 tz6, .int .i64 tz7, .bool tz8] 55 (0, 0)) BKz0.out NBz1.out (by simp)); have HOz1 := mk (Kd.Q_lower (Kd.Q_new' (Kd.Q_newM (M := fun k_ => (w.heap.size ≤ k_)) ho0 (keep_size (w := w) (g := g) (row := none) HK.out) (fun k_ h_ => h_)) (Kd.R_lt HOz0.out)) (keep_size (w := w) (g := g) (row := none) HK.out)); replace HOz0 := mk (Kd.R_mono (Kd.R_told (Kd.R_oldK (IsS144.apart (show IsS144 w0 _ g s0_0 tz20 from by exact HI0.out) HOz0.out (by decide)) hk) (Kd.Q_base ho0)) (fun _ h_ => h_.1)); replace HK := mk (KeepBut.trans HK.out hk (.inl rfl)); replace HB := mk (hb); replace HI0 := mk (hi); (try clear hb); (try clear hk); (try clear hi); (try clear ho0); obtain ⟨hcz25_0, hcz25_1, hcz25_2, hcz25_3, hcz25_4, hcz25_5, hcz25_6, hcz25_7, hcz25_8, hfz25_0, hfz25_1, hfz25_2, hfz25_3, hfz25_4, hfz25_5, hfz25_6, hfz25_7, hfz25_8⟩ := c9 BKz0.out; obtain ⟨Ao26, co26, eo26, _⟩ := Kd.Q_slice HOz1.out; subst eo26) | ((with_reducible refine gate_store (t := 55) (p := 7) rfl ?_); refine store_event (t := 55) (p := 7) (v := ?vo_w27) (w1 := (((((((((w24.setCell ⟨gbz0, 0, none⟩ (.int .i64 tz10)).setCell ⟨gbz0, 1, none⟩ (.int .i64 tz11)).setCell ⟨gbz0, 2, none⟩ (.int .i64 tz12)).setCell ⟨gbz0, 3, none⟩ (.slice Ao26 tz9.length co26)).setCell ⟨gbz0, 4, none⟩ (.int .i64 tz13)).setCell ⟨gbz0, 5, none⟩ (.int .i64 tz14)).setCell ⟨gbz0, 6, none⟩ (.int .i64 tz15)).setCell ⟨gbz0, 7, none⟩ (.int .i64 tz16)).setCell ⟨gbz0, 8, none⟩ (.bool tz17))) ?hg ?ho ?hn ?hr ?_; (case ho => rfl); (case hg => rfl); (case hn => rfl); (case hr => (go_simp; done)); intro w27 hw; have n0_ : Aside0 (Kd.N k55 55 w27 w.heap.size (fun k_ => (w.heap.size ≤ k_) ∧ some k_ ≠ (.slice Ao22 tz0.length co22 : Value).ownBlock ∧ some k_ ≠ (.slice Ao26 tz9.length co26 : Value).ownBlock ∧ k_ ≠ g ∧ k_ ≠ gbz0) u5 x5_1) := ⟨(by rw [hw]; exact (by exact Kd.N_mono (Kd.N_far (p := ⟨gbz0, 8, none⟩) (Kd.N_far (p := ⟨gbz0, 7, none⟩) (Kd.N_far (p := ⟨gbz0, 6, none⟩) (Kd.N_far (p := ⟨gbz0, 5, none⟩) (Kd.N_far (p := ⟨gbz0, 4, none⟩) (Kd.N_far (p := ⟨gbz0, 3, none⟩) (Kd.N_far (p := ⟨gbz0, 2, none⟩) (Kd.N_far (p := ⟨gbz0, 1, none⟩) (Kd.N_far (p := ⟨gbz0, 0, none⟩) (Kd.N_mono HO_5.out (fun k_ hk => (⟨hk, hk.1.2⟩ : _ ∧ k_ ≠ gbz0))) (fun _ hk => hk.2) (.int .i64 tz10)) (fun _ hk => hk.2) (.int .i64 tz11)) (fun _ hk => hk.2) (.int .i64 tz12)) (fun _ hk => hk.2) (.slice Ao26 tz9.length co26)) (fun _ hk => hk.2) (.int .i64 tz13)) (fun _ hk => hk.2) (.int .i64 tz14)) (fun _ hk => hk.2) (.int .i64 tz15)) (fun _ hk => hk.2) (.int .i64 tz16)) (fun _ hk => hk.2) (.bool tz17)) (fun _ hk => ⟨hk.1.1.1.1.1, ⟨hk.1.1.1.2, ⟨hk.1.2, ⟨hk.1.1.1.1.2, hk.1.1.2⟩⟩⟩⟩)))⟩; have n1_ : Aside0 (Kd.R (Kd.int .i64) 3 w27 w.heap.size (fun k_ => (w.heap.size ≤ k_) ∧ some k_ ≠ (.slice Ao26 tz9.length co26 : Value).ownBlock) (.slice Ao22 tz0.length co22) tz0) := ⟨(by rw [hw]; exact (by exact Kd.R_mono (Kd.R_far (p := ⟨gbz0, 8, none⟩) (Kd.R_far (p := ⟨gbz0, 7, none⟩) (Kd.R_far (p := ⟨gbz0, 6, none⟩) (Kd.R_far (p := ⟨gbz0, 5, none⟩) (Kd.R_far (p := ⟨gbz0, 4, none⟩) (Kd.R_far (p := ⟨gbz0, 3, none⟩) (Kd.R_far (p := ⟨gbz0, 2, none⟩) (Kd.R_far (p := ⟨gbz0, 1, none⟩) (Kd.R_far (p := ⟨gbz0, 0, none⟩) (Kd.R_types HOz0.out BKz0.out (by decide)) (fun _ hk => hk.2) (.int .i64 tz10)) (fun _ hk => hk.2) (.int .i64 tz11)) (fun _ hk => hk.2) (.int .i64 tz12)) (fun _ hk => hk.2) (.slice Ao26 tz9.length co26)) (fun _ hk => hk.2) (.int .i64 tz13)) (fun _ hk => hk.2) (.int .i64 tz14)) (fun _ hk => hk.2) (.int .i64 tz15)) (fun _ hk => hk.2) (.int .i64 tz16)) (fun _ hk => hk.2) (.bool tz17)) (fun _ hk => ⟨hk.1.1.1, hk.1.2⟩)))⟩; have n2_ : Aside0 (Kd.Q (Kd.int .i64) 3 w27 w.heap.size (fun k_ => (w.heap.size ≤ k_) ∧ some k_ ≠ (.slice Ao22 tz0.length co22 : Value).ownBlock) (.slice Ao26 tz9.length co26) tz9) := ⟨(by rw [hw]; exact (by exact Kd.Q_mono (Kd.Q_far (p := ⟨gbz0, 8, none⟩) (Kd.Q_far (p := ⟨gbz0, 7, none⟩) (Kd.Q_far (p := ⟨gbz0, 6, none⟩) (Kd.Q_far (p := ⟨gbz0, 5, none⟩) (Kd.Q_far (p := ⟨gbz0, 4, none⟩) (Kd.Q_far (p := ⟨gbz0, 3, none⟩) (Kd.Q_far (p := ⟨gbz0, 2, none⟩) (Kd.Q_far (p := ⟨gbz0, 1, none⟩) (Kd.Q_far (p := ⟨gbz0, 0, none⟩) (Kd.Q_types HOz1.out BKz0.out (by decide)) (fun _ hk => hk.2) (.int .i64 tz10)) (fun _ hk => hk.2) (.int .i64 tz11)) (fun _ hk => hk.2) (.int .i64 tz12)) (fun _ hk => hk.2) (.slice Ao26 tz9.length co26)) (fun _ hk => hk.2) (.int .i64 tz13)) (fun _ hk => hk.2) (.int .i64 tz14)) (fun _ hk => hk.2) (.int .i64 tz15)) (fun _ hk => hk.2) (.int .i64 tz16)) (fun _ hk => hk.2) (.bool tz17)) (fun _ hk => ⟨hk.1.1.1, hk.1.2⟩)))⟩; have n3_ : Aside0 (w27.heap[gbz0]? = some (.cells #[.int .i64 tz10, .int .i64 tz11, .int .i64 tz12, .slice Ao26 tz9.length co26, .int .i64 tz13, .int .i64 tz14, .int .i64 tz15, .int .i64 tz16, .bool tz17] 55 (0, 0))) := ⟨(by rw [hw]; exact (by refine blk_put (cs := #[.int .i64 tz10, .int .i64 tz11, .int .i64 tz12, .slice Ao26 tz9.length co26, .int .i64 tz13, .int .i64 tz14, .int .i64 tz15, .int .i64 tz16, .bool tz8]) ?_ 8 _ rfl; refine blk_put (cs := #[.int .i64 tz10, .int .i64 tz11, .int .i64 tz12, .slice Ao26 tz9.length co26, .int .i64 tz13, .int .i64 tz14, .int .i64 tz15, .int .i64 tz7, .bool tz8]) ?_ 7 _ rfl; refine blk_put (cs := #[.int .i64 tz10, .int .i64 tz11, .int .i64 tz12, .slice Ao26 tz9.length co26, .int .i64 tz13, .int .i64 tz14, .int .i64 tz6, .int .i64 tz7, .bool tz8]) ?_ 6 _ rfl; refine blk_put (cs := #[.int .i64 tz10, .int .i64 tz11, .int .i64 tz12, .slice Ao26 tz9.length co26, .int .i64 tz13, .int .i64 tz5, .int .i64 tz6, .int .i64 tz7, .bool tz8]) ?_ 5 _ rfl; refine blk_put (cs := #[.int .i64 tz10, .int .i64 tz11, .int .i64 tz12, .slice Ao26 tz9.length co26, .int .i64 tz4, .int .i64 tz5, .int .i64 tz6, .int .i64 tz7, .bool tz8]) ?_ 4 _ rfl; refine blk_put (cs := #[.int .i64 tz10, .int .i64 tz11, .int .i64 tz12, .slice Ao22 tz0.length co22, .int .i64 tz4, .int .i64 tz5, .int .i64 tz6, .int .i64 tz7, .bool tz8]) ?_ 3 _ rfl; refine blk_put (cs := #[.int .i64 tz10, .int .i64 tz11, .int .i64 tz3, .slice Ao22 tz0.length co22, .int .i64 tz4, .int .i64 tz5, .int .i64 tz6, .int .i64 tz7, .bool tz8]) ?_ 2 _ rfl; refine blk_put (cs := #[.int .i64 tz10, .int .i64 tz2, .int .i64 tz3, .slice Ao22 tz0.length co22, .int .i64 tz4, .int .i64 tz5, .int .i64 tz6, .int .i64 tz7, .bool tz8]) ?_ 1 _ rfl; refine blk_put (cs := #[.int .i64 tz1, .int .i64 tz2, .int .i64 tz3, .slice Ao22 tz0.length co22, .int .i64 tz4, .int .i64 tz5, .int .i64 tz6, .int .i64 tz7, .bool tz8]) ?_ 0 _ rfl; exact BKz0.out))⟩; have n4_ : Aside0 (IsS144 w0 w27 g s0_0 tz21) := ⟨(by rw [hw]; exact (by repeat (with_reducible first | exact HI0.out | refine IsS144.far ?_ NBz0.out _)))⟩; have n5_ : Aside0 (KeepBut w w27 g none) := ⟨(by rw [hw]; exact (by repeat (with_reducible first | exact HK.out | refine keep_far ?_ GWz0.out _)))⟩; have n6_ : Aside0 (Below w0.heap.size w0 w27) := ⟨(by rw [hw]; exact (by repeat (with_reducible first | exact HB.out | refine below_set ?_ GEz0.out)))⟩; clear hw; clear HO_5; clear HOz0; clear HOz1; clear BKz0; clear HI0; clear HK; clear HB; have HO_5 := n0_; have HOz0 := n1_; have HOz1 := n2_; have BKz0 := n3_; have HI0 := n4_; have HK := n5_; have HB := n6_; obtain ⟨hcz28_0, hcz28_1, hcz28_2, hcz28_3, hcz28_4, hcz28_5, hcz28_6, hcz28_7, -⟩ := c9 BKz0.out; have hcz28_8 : w27.cell? ⟨gbz0, 8, none⟩ = some (.bool tz17) := (blk_cell BKz0.out 8).trans rfl) | ((with_reducible refine gate_builtin (b := .append) (xs := #[.tmp 27, .tmp 29]) rfl ?_); at_builtin; refine Kd.N_append k55 w.heap.size rfl (.tmp 27) (.tmp 29) 81 55 (.agg #[(.int .i64 0), (.int .i64 0), (.int .i64 0), (.slice none 0 0), (.int .i64 0), (.int .i64 0), (.int .i64 0), (.int .i64 0), (.bool false)]) 88 rfl Try.underlying81 info55 rfl (by decide) (by omega) u5 x5_1 (⟨(⟨tz10, tz11, tz12, tz9⟩ : S27), tz13, tz14, tz15, tz16, tz17⟩ : S55) [.int .i64 tz10, .int .i64 tz11, .int .i64 tz12, .slice Ao26 tz9.length co26, .int .i64 tz13, .int .i64 tz14, .int .i64 tz15, .int .i64 tz16, .bool tz17] (fun k_ => (w.heap.size ≤ k_) ∧ some k_ ≠ (.slice Ao22 tz0.length co22 : Value).ownBlock ∧ k_ ≠ gbz0 ∧ k_ ≠ g) (fun k_ => ((fun k_ => (w.heap.size ≤ k_) ∧ some k_ ≠ (.slice Ao22 tz0.length co22 : Value).ownBlock ∧ k_ ≠ gbz0 ∧ k_ ≠ g)) k_ ∧ some k_ ≠ (u5 : Value).ownBlock) rfl rfl ?aP (fun _ hk => hk) ?aF ?aO (Below.refl _ _) ?aS ?aL ?_; (case aP => exact (k55_mkF _ _ (⟨(⟨tz10, tz11, tz12, tz9⟩ : S27), tz13, tz14, tz15, tz16, tz17⟩ : S55) (Kd.Q_reads' (Kd.Q_mono (ok' := (fun k_ => ((fun k_ => (w.heap.size ≤ k_) ∧ some k_ ≠ (.slice Ao22 tz0.length co22 : Value).ownBlock ∧ k_ ≠ gbz0 ∧ k_ ≠ g)) k_ ∧ some k_ ≠ (u5 : Value).ownBlock)) (IsS144.apartQ HI0.out (Kd.Q_types (Kd.Q_apart' HOz1.out (Kd.N_typed HO_5.out) (by decide)) BKz0.out (by decide)) (by decide)) (fun k_ hk => ⟨⟨hk.1.1.1.1, ⟨hk.1.1.1.2, ⟨hk.1.2, hk.2⟩⟩⟩, hk.1.1.2⟩))).2.1 (Kd.Q_F (Kd.Q_mono (ok' := (fun k_ => ((fun k_ => (w.heap.size ≤ k_) ∧ some k_ ≠ (.slice Ao22 tz0.length co22 : Value).ownBlock ∧ k_ ≠ gbz0 ∧ k_ ≠ g)) k_ ∧ some k_ ≠ (u5 : Value).ownBlock)) (IsS144.apartQ HI0.out (Kd.Q_types (Kd.Q_apart' HOz1.out (Kd.N_typed HO_5.out) (by decide)) BKz0.out (by decide)) (by decide)) (fun k_ hk => ⟨⟨hk.1.1.1.1, ⟨hk.1.1.1.2, ⟨hk.1.2, hk.2⟩⟩⟩, hk.1.1.2⟩))))); (case aF => exact (fun k_ hk => ⟨(Nat.le_trans (keep_size (w := w) (g := g) (row := none) HK.out) hk), Kd.fresh' (Kd.R_lt HOz0.out) k_ hk, Kd.freshB (g := gbz0) (o := .cells #[.int .i64 tz10, .int .i64 tz11, .int .i64 tz12, .slice Ao26 tz9.length co26, .int .i64 tz13, .int .i64 tz14, .int .i64 tz15, .int .i64 tz16, .bool tz17] 55 (0, 0)) BKz0.out k_ hk, IsS144.fresh HI0.out k_ hk⟩)); (case aO => exact (by exact Kd.N_mono HO_5.out (fun _ hk => ⟨hk.1, ⟨hk.2.1, ⟨hk.2.2.2.2, hk.2.2.2.1⟩⟩⟩))); (case aS => exact (keep_size (w := w) (g := g) (row := none) HK.out)); (case aL => have := LMc17.out; omega); intro vz4 w29 ho hb hg hat; rw [← Nyz2.out] at ho; have n0_ := mk (IsS144.grown HI0.out hg (IsS144.own_neN HI0.out HO_5.out (by decide))); have n3_ := mk (below_weaken HB.out HL.out hb); have n4_ := mk (KeepBut.trans HK.out (KeepBut.of_grown hg g) (Kd.N_base2 HO_5.out)); have n5_ := mk (ho); clear HI0; clear HOz0; clear BKz0; clear HB; clear HK; clear HO_5; clear HOz1; have HI0 := n0_; have HB := n3_; have HK := n4_; have HOz4 := n5_; clear ho hb hg hat))
      go_roundg k1
      case measure => have := HK1.out; omega
      case rel => exact ⟨(yz2), (wrap64 (x6_1 - 1)), (tz21), (by rfl), H', ⟨by have := HK1.out; omega⟩, ⟨by exact Kd.N_mono HOz4.out (fun _ hk => ⟨hk.1, hk.2.2.2⟩)⟩, HI0, HK, HB⟩
     rw [if_neg c17] at H
     exact absurd H (by simp)
    rw [if_neg c15] at H
    have c15b0 : (tz19 == 0) = false := beq_eq_false_iff_ne.mpr c15
    have c15b1 : (tz19 != 0) = true := bne_iff_ne.mpr c15
    by_cases c30 : x5_1.length < 1599289640401
    ·rw [if_pos c30] at H
     have LMc30 := mk c30
     clear c30
     obtain ⟨yz3, hyz3⟩ : ∃ y_ : List (S55), y_ = (x5_1 ++ [(⟨(⟨tz1, tz2, tz3, tz0⟩ : S27), tz4, tz5, tz6, tz7, tz8⟩ : S55)]) := ⟨_, rfl⟩
     replace H : (spec_anyLayers.l0 k1 a1 yz3 (wrap64 (x6_1 - 1)) s0_0 tz20) = some (r1, r2) := by (rw [hyz3]; with_reducible exact H)
     have Nyz3 := mk hyz3
     clear hyz3
     have H' := mk H
     clear H
     go_wp2_with (first | ((with_reducible refine gate_callee (f := 146) rfl ?_); refine goesL_ (some 20) rfl rfl Try.func146 (by kernel_rfl) rfl #[.pointer (some ⟨g, 0, none⟩), .int .i64 ji12] rfl (by (try simp only [List.map_toArray, List.map_cons, List.map_nil]); rfl) ?_; (with_reducible refine (spec_randomLayer.calls k1 g s0_0 x1001_1 ji12 tz1 tz2 tz3 tz0 tz4 tz5 tz6 tz7 tz8 tz18 w0 _ ?side1 ?side2 A13.out).mono ?_); (case side1 => repeat (with_reducible exact HI0.out)); (case side2 => repeat (with_reducible exact HB.out)); rintro e w31 ⟨vz0, rfl, ho0, hi, hb, hk⟩; refine ⟨_, rfl, ?_⟩; replace HO_5 := mk (Kd.N_mono (Kd.N_told (Kd.N_oldK (Kd.N_mono (ok := fun k_ => ((w.heap.size ≤ k_) ∧ k_ ≠ g)) HO_5.out (fun k_ hk_ => (⟨hk_, hk_.2⟩ : _ ∧ k_ ≠ g))) hk) (Kd.R_base ho0)) (fun _ h_ => h_.1)); have HOz0 := mk (Kd.R_lower (Kd.R_newM (M := fun k_ => (w.heap.size ≤ k_)) ho0 (keep_size (w := w) (g := g) (row := none) HK.out) (fun k_ h_ => h_)) (keep_size (w := w) (g := g) (row := none) HK.out)); replace HK := mk (KeepBut.trans HK.out hk (.inl rfl)); replace HB := mk (hb); replace HI0 := mk (hi); (try clear hb); (try clear hk); (try clear hi); (try clear ho0)) | ((with_reducible refine gate_dst (N := 7) rfl ?_); refine box_event (by rfl) (N := 7) (by rfl) (cs := #[.int .i64 0, .int .i64 0, .int .i64 0, .slice none 0 0, .int .i64 0, .int .i64 0, .int .i64 0, .int .i64 0, .bool false]) (t := 55) (by go_simp; done) ?_; intro gbz0 hg w32 hbox hb; replace HO_5 := mk (Kd.N_below (Kd.N_elderB HO_5.out gbz0 (Nat.le_of_eq hg.symm)) hb); replace HOz0 := mk (Kd.R_below HOz0.out hb); replace HB := mk (below_step HB.out hb); have BKz0 := mk (hbox); have GWz0 := mk ((by rw [hg]; exact (keep_size (w := w) (g := g) (row := none) HK.out) : w.heap.size ≤ gbz0)); have GEz0 := mk ((Nat.le_trans HW0.out (by rw [hg]; exact (keep_size (w := w) (g := g) (row := none) HK.out) : w.heap.size ≤ gbz0) : w0.heap.size ≤ gbz0)); replace HK := mk (KeepBut.trans HK.out (KeepBut.of_below hb g none) (.inl rfl)); have NBz0 := mk ((by rw [hg]; exact Nat.ne_of_lt (IsS144.lt (show IsS144 w0 _ g s0_0 tz18 from by exact HI0.out)) : g ≠ gbz0)); have NBz1 := mk ((by rw [hg]; exact Nat.ne_of_gt (IsS144.lt (show IsS144 w0 _ g s0_0 tz18 from by exact HI0.out)) : gbz0 ≠ g)); replace HI0 := mk (IsS144.below HI0.out hb); clear hb hbox hg; obtain ⟨hcz34_0, hcz34_1, hcz34_2, hcz34_3, hcz34_4, hcz34_5, hcz34_6, hcz34_7, hcz34_8, hfz34_0, hfz34_1, hfz34_2, hfz34_3, hfz34_4, hfz34_5, hfz34_6, hfz34_7, hfz34_8⟩ := c9 BKz0.out; obtain ⟨Ao35, co35, eo35⟩ := Kd.R_slice HOz0.out; subst eo35) | ((with_reducible refine gate_callee (f := 127) rfl ?_); refine goesL_ (some 22) rfl rfl Try.func127 (by kernel_rfl) rfl #[.pointer (some ⟨g, 0, none⟩), .int .i64 20] rfl (by (try simp only [List.map_toArray, List.map_cons, List.map_nil]); rfl) ?_; (with_reducible refine (spec_reader_pick.calls k1 g s0_0 tz18 20 tz19 tz20 w0 _ ?side1 ?side2 A14.out).mono ?_); (case side1 => repeat (with_reducible first | exact HI0.out | refine IsS144.far ?_ NBz0.out _)); (case side2 => repeat (with_reducible first | exact HB.out | refine below_set ?_ GEz0.out)); rintro e w36 ⟨rfl, hi, hb, hk⟩; refine ⟨_, rfl, ?_⟩; replace HO_5 := mk (Kd.N_mono (Kd.N_keep (Kd.N_mono (ok := fun k_ => ((((w.heap.size ≤ k_) ∧ k_ ≠ g) ∧ some k_ ≠ (.slice Ao35 tz0.length co35 : Value).ownBlock) ∧ k_ ≠ gbz0)) (by exact (Kd.N_mono (Kd.N_far (p := ⟨gbz0, 8, none⟩) (Kd.N_far (p := ⟨gbz0, 7, none⟩) (Kd.N_far (p := ⟨gbz0, 6, none⟩) (Kd.N_far (p := ⟨gbz0, 5, none⟩) (Kd.N_far (p := ⟨gbz0, 4, none⟩) (Kd.N_far (p := ⟨gbz0, 3, none⟩) (Kd.N_far (p := ⟨gbz0, 2, none⟩) (Kd.N_far (p := ⟨gbz0, 1, none⟩) (Kd.N_far (p := ⟨gbz0, 0, none⟩) (Kd.N_mono HO_5.out (fun k_ hk => (⟨hk, hk.2⟩ : _ ∧ k_ ≠ gbz0))) (fun _ hk => hk.2) (.int .i64 tz1)) (fun _ hk => hk.2) (.int .i64 tz2)) (fun _ hk => hk.2) (.int .i64 tz3)) (fun _ hk => hk.2) (.slice Ao35 tz0.length co35)) (fun _ hk => hk.2) (.int .i64 tz4)) (fun _ hk => hk.2) (.int .i64 tz5)) (fun _ hk => hk.2) (.int .i64 tz6)) (fun _ hk => hk.2) (.int .i64 tz7)) (fun _ hk => hk.2) (.bool tz8)) (fun _ h_ => h_.1))) (fun k_ hk_ => (⟨hk_, hk_.1.1.2⟩ : _ ∧ k_ ≠ g))) hk (fun _ h => h.2)) (fun _ h => h.1)); replace HOz0 := mk (Kd.R_mono (Kd.R_keep (IsS144.apart (show IsS144 w0 _ g s0_0 tz18 from by repeat (with_reducible first | exact HI0.out | refine IsS144.far ?_ NBz0.out _)) (by exact (Kd.R_mono (Kd.R_far (p := ⟨gbz0, 8, none⟩) (Kd.R_far (p := ⟨gbz0, 7, none⟩) (Kd.R_far (p := ⟨gbz0, 6, none⟩) (Kd.R_far (p := ⟨gbz0, 5, none⟩) (Kd.R_far (p := ⟨gbz0, 4, none⟩) (Kd.R_far (p := ⟨gbz0, 3, none⟩) (Kd.R_far (p := ⟨gbz0, 2, none⟩) (Kd.R_far (p := ⟨gbz0, 1, none⟩) (Kd.R_far (p := ⟨gbz0, 0, none⟩) (Kd.R_types HOz0.out BKz0.out (by decide)) (fun _ hk => hk.2) (.int .i64 tz1)) (fun _ hk => hk.2) (.int .i64 tz2)) (fun _ hk => hk.2) (.int .i64 tz3)) (fun _ hk => hk.2) (.slice Ao35 tz0.length co35)) (fun _ hk => hk.2) (.int .i64 tz4)) (fun _ hk => hk.2) (.int .i64 tz5)) (fun _ hk => hk.2) (.int .i64 tz6)) (fun _ hk => hk.2) (.int .i64 tz7)) (fun _ hk => hk.2) (.bool tz8)) (fun _ h_ => h_.1))) (by decide)) hk (fun _ h => h.2)) (fun _ h => h.1)); replace BKz0 := mk (KeepBut.blk hk (g' := gbz0) (o := .cells #[.int .i64 tz1, .int .i64 tz2, .int .i64 tz3, .slice Ao35 tz0.length co35, .int .i64 tz4, .int .i64 tz5, .int .i64 tz6, .int .i64 tz7, .bool tz8] 55 (0, 0)) (by refine blk_put (cs := #[.int .i64 tz1, .int .i64 tz2, .int .i64 tz3, .slice Ao35 tz0.length co35, .int .i64 tz4, .int .i64 tz5, .int .i64 tz6, .int .i64 tz7, .bool false]) ?_ 8 _ rfl; refine blk_put (cs := #[.int .i64 tz1, .int .i64 tz2, .int .i64 tz3, .slice Ao35 tz0.length co35, .int .i64 tz4, .int .i64 tz5, .int .i64 tz6, .int .i64 0, .bool false]) ?_ 7 _ rfl; refine blk_put (cs := #[.int .i64 tz1, .int .i64 tz2, .int .i64 tz3, .slice Ao35 tz0.length co35, .int .i64 tz4, .int .i64 tz5, .int .i64 0, .int .i64 0, .bool false]) ?_ 6 _ rfl; refine blk_put (cs := #[.int .i64 tz1, .int .i64 tz2, .int .i64 tz3, .slice Ao35 tz0.length co35, .int .i64 tz4, .int .i64 0, .int .i64 0, .int .i64 0, .bool false]) ?_ 5 _ rfl; refine blk_put (cs := #[.int .i64 tz1, .int .i64 tz2, .int .i64 tz3, .slice Ao35 tz0.length co35, .int .i64 0, .int .i64 0, .int .i64 0, .int .i64 0, .bool false]) ?_ 4 _ rfl; refine blk_put (cs := #[.int .i64 tz1, .int .i64 tz2, .int .i64 tz3, .slice none 0 0, .int .i64 0, .int .i64 0, .int .i64 0, .int .i64 0, .bool false]) ?_ 3 _ rfl; refine blk_put (cs := #[.int .i64 tz1, .int .i64 tz2, .int .i64 0, .slice none 0 0, .int .i64 0, .int .i64 0, .int .i64 0, .int .i64 0, .bool false]) ?_ 2 _ rfl; refine blk_put (cs := #[.int .i64 tz1, .int .i64 0, .int .i64 0, .slice none 0 0, .int .i64 0, .int .i64 0, .int .i64 0, .int .i64 0, .bool false]) ?_ 1 _ rfl; refine blk_put (cs := #[.int .i64 0, .int .i64 0, .int .i64 0, .slice none 0 0, .int .i64 0, .int .i64 0, .int .i64 0, .int .i64 0, .bool false]) ?_ 0 _ rfl; exact BKz0.out) NBz1.out (by simp)); replace HK := mk (KeepBut.trans (by repeat (with_reducible first | exact HK.out | refine keep_far ?_ GWz0.out _)) hk (.inl rfl)); replace HB := mk (hb); replace HI0 := mk (hi); (try clear hb); (try clear hk); (try clear hi); obtain ⟨hcz37_0, hcz37_1, hcz37_2, hcz37_3, hcz37_4, hcz37_5, hcz37_6, hcz37_7, -⟩ := c9 BKz0.out; have hcz37_8 : w36.cell? ⟨gbz0, 8, none⟩ = some (.bool tz8) := (blk_cell BKz0.out 8).trans rfl) | ((with_reducible refine gate_builtin (b := .append) (xs := #[.tmp 27, .tmp 29]) rfl ?_); at_builtin; refine Kd.N_append k55 w.heap.size rfl (.tmp 27) (.tmp 29) 81 55 (.agg #[(.int .i64 0), (.int .i64 0), (.int .i64 0), (.slice none 0 0), (.int .i64 0), (.int .i64 0), (.int .i64 0), (.int .i64 0), (.bool false)]) 88 rfl Try.underlying81 info55 rfl (by decide) (by omega) u5 x5_1 (⟨(⟨tz1, tz2, tz3, tz0⟩ : S27), tz4, tz5, tz6, tz7, tz8⟩ : S55) [.int .i64 tz1, .int .i64 tz2, .int .i64 tz3, .slice Ao35 tz0.length co35, .int .i64 tz4, .int .i64 tz5, .int .i64 tz6, .int .i64 tz7, .bool tz8] (fun k_ => (w.heap.size ≤ k_) ∧ k_ ≠ gbz0 ∧ k_ ≠ g) (fun k_ => ((fun k_ => (w.heap.size ≤ k_) ∧ k_ ≠ gbz0 ∧ k_ ≠ g)) k_ ∧ some k_ ≠ (u5 : Value).ownBlock) rfl rfl ?aP (fun _ hk => hk) ?aF ?aO (Below.refl _ _) ?aS ?aL ?_; (case aP => exact (k55_mkF _ _ (⟨(⟨tz1, tz2, tz3, tz0⟩ : S27), tz4, tz5, tz6, tz7, tz8⟩ : S55) (Kd.R_reads' (Kd.R_mono (ok' := (fun k_ => ((fun k_ => (w.heap.size ≤ k_) ∧ k_ ≠ gbz0 ∧ k_ ≠ g)) k_ ∧ some k_ ≠ (u5 : Value).ownBlock)) (IsS144.apart HI0.out (Kd.R_types (Kd.R_apart' HOz0.out (Kd.N_typed HO_5.out) (by decide)) BKz0.out (by decide)) (by decide)) (fun k_ hk => ⟨⟨hk.1.1.1.1, ⟨hk.1.2, hk.2⟩⟩, hk.1.1.2⟩))).2.1 (Kd.R_F (Kd.R_mono (ok' := (fun k_ => ((fun k_ => (w.heap.size ≤ k_) ∧ k_ ≠ gbz0 ∧ k_ ≠ g)) k_ ∧ some k_ ≠ (u5 : Value).ownBlock)) (IsS144.apart HI0.out (Kd.R_types (Kd.R_apart' HOz0.out (Kd.N_typed HO_5.out) (by decide)) BKz0.out (by decide)) (by decide)) (fun k_ hk => ⟨⟨hk.1.1.1.1, ⟨hk.1.2, hk.2⟩⟩, hk.1.1.2⟩))))); (case aF => exact (fun k_ hk => ⟨(Nat.le_trans (keep_size (w := w) (g := g) (row := none) HK.out) hk), Kd.freshB (g := gbz0) (o := .cells #[.int .i64 tz1, .int .i64 tz2, .int .i64 tz3, .slice Ao35 tz0.length co35, .int .i64 tz4, .int .i64 tz5, .int .i64 tz6, .int .i64 tz7, .bool tz8] 55 (0, 0)) BKz0.out k_ hk, IsS144.fresh HI0.out k_ hk⟩)); (case aO => exact (by exact Kd.N_mono HO_5.out (fun _ hk => ⟨hk.1.1.1, ⟨hk.2, hk.1.1.2⟩⟩))); (case aS => exact (keep_size (w := w) (g := g) (row := none) HK.out)); (case aL => have := LMc30.out; omega); intro vz5 w38 ho hb hg hat; rw [← Nyz3.out] at ho; have n0_ := mk (IsS144.grown HI0.out hg (IsS144.own_neN HI0.out HO_5.out (by decide))); have n2_ := mk (below_weaken HB.out HL.out hb); have n3_ := mk (KeepBut.trans HK.out (KeepBut.of_grown hg g) (Kd.N_base2 HO_5.out)); have n4_ := mk (ho); clear HI0; clear BKz0; clear HB; clear HK; clear HO_5; clear HOz0; have HI0 := n0_; have HB := n2_; have HK := n3_; have HOz5 := n4_; clear ho hb hg hat))
     go_roundg k1
     case measure => have := HK1.out; omega
     case rel => exact ⟨(yz3), (wrap64 (x6_1 - 1)), (tz20), (by rfl), H', ⟨by have := HK1.out; omega⟩, ⟨by exact Kd.N_mono HOz5.out (fun _ hk => ⟨hk.1, hk.2.2⟩)⟩, HI0, HK, HB⟩
    rw [if_neg c30] at H
    exact absurd H (by simp)
   rw [if_neg c10] at H
   have c10b0 : decide (0 < x6_1) = false := decide_eq_false c10
   clear c10
   simp only [Option.some.injEq, Prod.mk.injEq] at H
   obtain ⟨rfl, rfl⟩ := H
   go_wp2
   go_ret
   exact ⟨_, by rfl, by exact Kd.N_mono HO_5.out (fun _ hk => hk.1), by exact HI0.out, by exact HB.out, by exact HK.out⟩


def spec_DrawFlattenLayers.f (k : Nat) (l0 : List Int) : Option (Int × Int × Int × List Int × (List S55)) := (spec_newReader.f l0).bind fun btz1 => ((spec_anyImage.f k btz1.1 btz1.2).bind fun btz0 => ((spec_anyLayers.f k btz1.1 btz0.2.2.2.2 btz0.2.2.1).bind fun btz2 => (some (btz0.1, btz0.2.1, btz0.2.2.1, btz0.2.2.2.1, btz2.1))))
theorem spec_DrawFlattenLayers.mono : ∀ a0 k, LeO (spec_DrawFlattenLayers.f k a0) (spec_DrawFlattenLayers.f (k + 1) a0) := by
 intro a0 k
 unfold spec_DrawFlattenLayers.f
 repeat' first | (with_reducible exact spec_anyImage.mono _ _ _) | (with_reducible exact spec_anyLayers.mono _ _ _ _) | (with_reducible exact LeO.refl _) | (with_reducible refine LeO.bind ?_ (fun _ => ?_))
set_option maxHeartbeats 8000000 in
set_option maxRecDepth 100000 in
theorem spec_DrawFlattenLayers.calls (k : Nat) (A0 : Option Addr) (c0 : Nat) (l0 : List Int) (r1 : Int) (r2 : Int) (r3 : Int) (r4 : List Int) (r5 : List S55) (w : World) (hr0 : Kd.C (Kd.int .u8) w A0 l0.length l0) (hc0 : l0.length ≤ c0) (h : spec_DrawFlattenLayers.f k l0 = some (r1, r2, r3, r4, r5)) :
  Calls Try.prog 70 #[.slice A0 l0.length c0] w fun e w' => ∃ v3_ v4_ : Value, e = .returned (.tuple #[.agg #[.int .i64 r1, .int .i64 r2, .int .i64 r3, v3_], v4_]) ∧ Kd.Q (Kd.int .i64) 3 w' w.heap.size (fun k_ => (w.heap.size ≤ k_)) v3_ r4 ∧ Kd.N k55 55 w' w.heap.size (fun k_ => (w.heap.size ≤ k_) ∧ some k_ ≠ (v3_ : Value).ownBlock) v4_ r5 ∧ Below w.heap.size w w' := by
 have hu27 := Try.underlying27
 have HR0 := mk hr0
 have HC0 := mk hc0
 clear hr0 hc0
 have HB := mk (Below.refl w.heap.size w)
 have H : ((spec_newReader.f l0).bind fun btz1 => ((spec_anyImage.f k btz1.1 btz1.2).bind fun btz0 => ((spec_anyLayers.f k btz1.1 btz0.2.2.2.2 btz0.2.2.1).bind fun btz2 => (some (btz0.1, btz0.2.1, btz0.2.2.1, btz0.2.2.2.1, btz2.1))))) = some (r1, r2, r3, r4, r5) := h
 clear h
 replace H := Option.bind_eq_some_iff.mp H
 obtain ⟨⟨tz4, tz6⟩, A20, H⟩ := H
 replace H : ((spec_anyImage.f k tz4 tz6).bind fun btz0 => ((spec_anyLayers.f k tz4 btz0.2.2.2.2 btz0.2.2.1).bind fun btz2 => (some (btz0.1, btz0.2.1, btz0.2.2.1, btz0.2.2.2.1, btz2.1)))) = some (r1, r2, r3, r4, r5) := H
 have A2 := mk A20
 clear A20
 replace H := Option.bind_eq_some_iff.mp H
 obtain ⟨⟨tz0, tz2, tz1, tz3, tz5⟩, A30, H⟩ := H
 replace H : ((spec_anyLayers.f k tz4 tz5 tz1).bind fun btz2 => (some (tz0, tz2, tz1, tz3, btz2.1))) = some (r1, r2, r3, r4, r5) := H
 have A3 := mk A30
 clear A30
 replace H := Option.bind_eq_some_iff.mp H
 obtain ⟨⟨tz7, tz8⟩, A40, H⟩ := H
 replace H : (some (tz0, tz2, tz1, tz3, tz7)) = some (r1, r2, r3, r4, r5) := H
 have A4 := mk A40
 clear A40
 simp only [Option.some.injEq, Prod.mk.injEq] at H
 obtain ⟨rfl, rfl, rfl, rfl, rfl⟩ := H
 go_enter Try.func70, Try.ntmps70
 try go_wp2_with (first | ((with_reducible refine gate_dst (N := 2) rfl ?_); refine box_event (by rfl) (N := 2) (by rfl) (cs := #[.int .i64 0, .int .i64 0, .int .i64 0, .slice none 0 0]) (t := 27) (by go_simp; done) ?_; intro gbz1 hg w5 hbox hb; have BKz0 := mk (hbox); have GEz0 := mk ((by rw [hg]; exact (below_size HB.out) : w.heap.size ≤ gbz1)); replace HB := mk (below_step HB.out hb); clear hb hbox hg) | ((with_reducible refine gate_callee (f := 86) rfl ?_); refine goesL_ (some 7) rfl rfl Try.func86 (by kernel_rfl) rfl #[.slice A0 l0.length c0] rfl (by (try simp only [List.map_toArray, List.map_cons, List.map_nil]); rfl) ?_; (with_reducible refine (spec_newReader.calls _ _ l0 tz4 tz6 w _ ?side1 ?side2 ?side3 A2.out).mono ?_); (case side1 => repeat (with_reducible exact HB.out)); (case side2 => exact HR0.out); (case side3 => exact HC0.out); rintro e w6 ⟨gz0, rfl, hi, hb, hb2⟩; refine ⟨_, rfl, ?_⟩; replace HB := mk (hb); have HI71004 := mk (hi); have NBz2 := mk (Ne.symm (IsS144.ne_blk hi (blk_below BKz0.out hb2) (by decide))); replace BKz0 := mk (blk_below BKz0.out hb2); (try clear hb); (try clear hb2); (try clear hi)) | ((with_reducible refine gate_callee (f := 94) rfl ?_); refine goesL_ (some 9) rfl rfl Try.func94 (by kernel_rfl) rfl #[.pointer (some ⟨gz0, 0, none⟩)] rfl (by (try simp only [List.map_toArray, List.map_cons, List.map_nil]); rfl) ?_; (with_reducible refine (spec_anyImage.calls k gz0 tz4 tz6 tz0 tz2 tz1 tz3 tz5 w _ ?side1 ?side2 A3.out).mono ?_); (case side1 => repeat (with_reducible exact HI71004.out)); (case side2 => repeat (with_reducible exact HB.out)); rintro e w7 ⟨vz0, rfl, ho0, hi, hb, hk⟩; refine ⟨_, rfl, ?_⟩; replace BKz0 := mk (KeepBut.blk hk (g' := gbz1) (o := .cells #[.int .i64 0, .int .i64 0, .int .i64 0, .slice none 0 0] 27 (0, 0)) BKz0.out NBz2.out (by simp)); have HOz0 := mk (Kd.Q_lower (Kd.Q_newM (M := fun k_ => (w.heap.size ≤ k_)) ho0 (below_size HB.out) (fun k_ h_ => h_)) (below_size HB.out)); replace HB := mk (hb); replace HI71004 := mk (hi); (try clear hb); (try clear hk); (try clear hi); (try clear ho0)) | ((with_reducible refine gate_dst (N := 5) rfl ?_); refine box_event (by rfl) (N := 5) (by rfl) (cs := #[.int .i64 0, .int .i64 0, .int .i64 0, .slice none 0 0]) (t := 27) (by go_simp; done) ?_; intro gbz0 hg w8 hbox hb; replace HOz0 := mk (Kd.Q_below HOz0.out hb); have BKz1 := mk (hbox); have GEz1 := mk ((by rw [hg]; exact (below_size HB.out) : w.heap.size ≤ gbz0)); replace HB := mk (below_step HB.out hb); have NBz1 := mk ((by rw [hg]; exact Nat.ne_of_lt (blk_lt BKz0.out) : gbz1 ≠ gbz0)); have NBz0 := mk ((by rw [hg]; exact Nat.ne_of_gt (blk_lt BKz0.out) : gbz0 ≠ gbz1)); replace BKz0 := mk (blk_below BKz0.out hb); have NBz3 := mk ((by rw [hg]; exact Nat.ne_of_lt (IsS144.lt (show IsS144 w _ gz0 tz4 tz5 from by exact HI71004.out)) : gz0 ≠ gbz0)); have NBz4 := mk ((by rw [hg]; exact Nat.ne_of_gt (IsS144.lt (show IsS144 w _ gz0 tz4 tz5 from by exact HI71004.out)) : gbz0 ≠ gz0)); replace HI71004 := mk (IsS144.below HI71004.out hb); clear hb hbox hg; obtain ⟨hcz11_0, hcz11_1, hcz11_2, hcz11_3, hfz11_0, hfz11_1, hfz11_2, hfz11_3⟩ := c4 BKz1.out; obtain ⟨Ao12, co12, eo12, _⟩ := Kd.Q_slice HOz0.out; subst eo12))
 have n0_ : Aside0 (Kd.Q (Kd.int .i64) 3 ((((w8.setCell ⟨gbz0, 0, none⟩ (.int .i64 tz0)).setCell ⟨gbz0, 1, none⟩ (.int .i64 tz2)).setCell ⟨gbz0, 2, none⟩ (.int .i64 tz1)).setCell ⟨gbz0, 3, none⟩ (.slice Ao12 tz3.length co12)) w.heap.size (fun k_ => (w.heap.size ≤ k_)) (.slice Ao12 tz3.length co12) tz3) := ⟨by exact Kd.Q_mono (Kd.Q_far (p := ⟨gbz0, 3, none⟩) (Kd.Q_far (p := ⟨gbz0, 2, none⟩) (Kd.Q_far (p := ⟨gbz0, 1, none⟩) (Kd.Q_far (p := ⟨gbz0, 0, none⟩) (Kd.Q_types HOz0.out BKz1.out (by decide)) (fun _ hk => hk.2) (.int .i64 tz0)) (fun _ hk => hk.2) (.int .i64 tz2)) (fun _ hk => hk.2) (.int .i64 tz1)) (fun _ hk => hk.2) (.slice Ao12 tz3.length co12)) (fun _ hk => hk.1.1)⟩
 have n1_ : Aside0 (((((w8.setCell ⟨gbz0, 0, none⟩ (.int .i64 tz0)).setCell ⟨gbz0, 1, none⟩ (.int .i64 tz2)).setCell ⟨gbz0, 2, none⟩ (.int .i64 tz1)).setCell ⟨gbz0, 3, none⟩ (.slice Ao12 tz3.length co12)).heap[gbz1]? = some (.cells #[.int .i64 0, .int .i64 0, .int .i64 0, .slice none 0 0] 27 (0, 0))) := ⟨by refine blk_far ?_ NBz1.out _; refine blk_far ?_ NBz1.out _; refine blk_far ?_ NBz1.out _; refine blk_far ?_ NBz1.out _; exact BKz0.out⟩
 have n2_ : Aside0 (((((w8.setCell ⟨gbz0, 0, none⟩ (.int .i64 tz0)).setCell ⟨gbz0, 1, none⟩ (.int .i64 tz2)).setCell ⟨gbz0, 2, none⟩ (.int .i64 tz1)).setCell ⟨gbz0, 3, none⟩ (.slice Ao12 tz3.length co12)).heap[gbz0]? = some (.cells #[.int .i64 tz0, .int .i64 tz2, .int .i64 tz1, .slice Ao12 tz3.length co12] 27 (0, 0))) := ⟨by refine blk_put (cs := #[.int .i64 tz0, .int .i64 tz2, .int .i64 tz1, .slice none 0 0]) ?_ 3 _ rfl; refine blk_put (cs := #[.int .i64 tz0, .int .i64 tz2, .int .i64 0, .slice none 0 0]) ?_ 2 _ rfl; refine blk_put (cs := #[.int .i64 tz0, .int .i64 0, .int .i64 0, .slice none 0 0]) ?_ 1 _ rfl; refine blk_put (cs := #[.int .i64 0, .int .i64 0, .int .i64 0, .slice none 0 0]) ?_ 0 _ rfl; exact BKz1.out⟩
 have n3_ : Aside0 (IsS144 w ((((w8.setCell ⟨gbz0, 0, none⟩ (.int .i64 tz0)).setCell ⟨gbz0, 1, none⟩ (.int .i64 tz2)).setCell ⟨gbz0, 2, none⟩ (.int .i64 tz1)).setCell ⟨gbz0, 3, none⟩ (.slice Ao12 tz3.length co12)) gz0 tz4 tz5) := ⟨by repeat (with_reducible first | exact HI71004.out | refine IsS144.far ?_ NBz3.out _)⟩
 have n4_ : Aside0 (Below w.heap.size w ((((w8.setCell ⟨gbz0, 0, none⟩ (.int .i64 tz0)).setCell ⟨gbz0, 1, none⟩ (.int .i64 tz2)).setCell ⟨gbz0, 2, none⟩ (.int .i64 tz1)).setCell ⟨gbz0, 3, none⟩ (.slice Ao12 tz3.length co12))) := ⟨by repeat (with_reducible first | exact HB.out | refine below_set ?_ GEz1.out)⟩
 (try clear HOz0)
 (try clear BKz0)
 (try clear BKz1)
 (try clear HI71004)
 (try clear HB)
 generalize ((((w8.setCell ⟨gbz0, 0, none⟩ (.int .i64 tz0)).setCell ⟨gbz0, 1, none⟩ (.int .i64 tz2)).setCell ⟨gbz0, 2, none⟩ (.int .i64 tz1)).setCell ⟨gbz0, 3, none⟩ (.slice Ao12 tz3.length co12)) = w13 at n0_ n1_ n2_ n3_ n4_ ⊢
 revert n0_ n1_ n2_ n3_ n4_; intro HOz0 BKz0 BKz1 HI71004 HB
 replace HOz0 := mk (Kd.Q_drew HOz0.out)
 replace BKz0 := mk (blk_drew BKz0.out)
 replace BKz1 := mk (blk_drew BKz1.out)
 replace HI71004 := mk (IsS144.drew HI71004.out)
 replace HB := mk (below_drew1 HB.out)
 refine start_ (n := 7) (S := fun w' => w'.cell? ⟨gbz0, 0, none⟩ = some (.int .i64 tz0) ∧ w'.cell? ⟨gbz0, 1, none⟩ = some (.int .i64 tz2) ∧ w'.cell? ⟨gbz0, 2, none⟩ = some (.int .i64 tz1) ∧ w'.cell? ⟨gbz0, 3, none⟩ = some (.slice Ao12 tz3.length co12)) (ds := []) #[false, false, false, false, false, false, false] (by kernel_rfl) rfl rfl ⟨blk_cell BKz1.out 0, blk_cell BKz1.out 1, blk_cell BKz1.out 2, blk_cell BKz1.out 3⟩ (fun hHeld => ?_)
 generalize w13.drew = w14 at HOz0 BKz0 BKz1 HI71004 HB hHeld ⊢
 refine pure_ (i := 1) (N := some 11) (v := ?_) (a' := ?_) #[false, true, false, false, false, false, false] rfl rfl (by kernel_rfl) (fun _ _ _ h => h) (Or.inl ⟨by rfl, ?_⟩) ?_ ?_
 rotate_left
 ·intro w'
  go_simp
  with_reducible rfl
 rotate_left
 ·simp only [Act.put, List.setIfInBounds_toArray, List.set_cons_zero, List.set_cons_succ, i64_w, i32_w]
  rfl
 refine pure_ (i := 2) (N := some 12) (v := ?_) (a' := ?_) #[false, true, true, false, false, false, false] rfl rfl (by kernel_rfl) (fun _ _ _ h => h) (Or.inl ⟨by rfl, ?_⟩) ?_ ?_
 rotate_left
 ·intro w'
  go_simp
  with_reducible rfl
 rotate_left
 ·simp only [Act.put, List.setIfInBounds_toArray, List.set_cons_zero, List.set_cons_succ, i64_w, i32_w]
  rfl
 refine take_ (i := 0) (N := some 10) (v := ?_) (a' := ?_) #[true, true, true, false, false, false, false] rfl rfl (by kernel_rfl) (fun _ _ _ h => h) (Or.inl ⟨by rfl, ?_⟩) hHeld ?_ ?_
 rotate_left
 ·rintro w' ⟨s0, s1, s2, s3⟩
  go_simp
  with_reducible rfl
 rotate_left
 ·simp only [Act.put, List.setIfInBounds_toArray, List.set_cons_zero, List.set_cons_succ, i64_w, i32_w]
  rfl
 refine take_ (i := 3) (N := some 13) (v := ?_) (a' := ?_) #[true, true, true, true, false, false, false] rfl rfl (by kernel_rfl) (fun _ _ _ h => h) (Or.inl ⟨by rfl, ?_⟩) hHeld ?_ ?_
 rotate_left
 ·rintro w' ⟨s0, s1, s2, s3⟩
  go_simp
  with_reducible rfl
 rotate_left
 ·simp only [Act.put, List.setIfInBounds_toArray, List.set_cons_zero, List.set_cons_succ, i64_w, i32_w]
  rfl
 refine one_ (i := 4) (N := some 14) #[true, true, true, true, true, false, false] rfl rfl (by kernel_rfl) (by decide) (fun K hK => ?_)
 refine goes_ Try.func120 (by kernel_rfl) rfl #[.pointer (some ⟨gz0, 0, none⟩), .int .i64 tz1] (by rfl) rfl rfl (by (try simp only [List.map_toArray, List.map_cons, List.map_nil]); rfl) ?_
 with_reducible refine (spec_anyLayers.calls k gz0 tz4 tz5 tz1 tz7 tz8 w _ ?side1 ?side2 A4.out).mono ?_
 (case side1 => repeat (with_reducible exact HI71004.out))
 (case side2 => repeat (with_reducible exact HB.out))
 rintro e w15 ⟨vz1, rfl, ho0, hi, hb, hk⟩
 refine ⟨_, rfl, ?_⟩
 have HOz1 := mk (Kd.N_lower (Kd.N_mono (ok' := fun k_ => (w.heap.size ≤ k_) ∧ some k_ ≠ (.slice Ao12 tz3.length co12 : Value).ownBlock ∧ k_ ≠ gbz1 ∧ k_ ≠ gbz0 ∧ k_ ≠ gz0) ho0 (fun k_ hk_ => ⟨(Nat.le_trans (below_size HB.out) hk_), (Kd.fresh' (Kd.Q_lt HOz0.out) k_ hk_), (Kd.freshB (g := gbz1) (o := .cells #[.int .i64 0, .int .i64 0, .int .i64 0, .slice none 0 0] 27 (0, 0)) BKz0.out k_ hk_), (Kd.freshB (g := gbz0) (o := .cells #[.int .i64 tz0, .int .i64 tz2, .int .i64 tz1, .slice Ao12 tz3.length co12] 27 (0, 0)) BKz1.out k_ hk_), (IsS144.fresh HI71004.out k_ hk_)⟩)) (below_size HB.out))
 replace BKz0 := mk (KeepBut.blk hk (g' := gbz1) (o := .cells #[.int .i64 0, .int .i64 0, .int .i64 0, .slice none 0 0] 27 (0, 0)) BKz0.out NBz2.out (by simp))
 replace HOz0 := mk (Kd.Q_mono (Kd.Q_keep (IsS144.apartQ (show IsS144 w _ gz0 tz4 tz5 from by exact HI71004.out) HOz0.out (by decide)) hk (fun _ h => h.2)) (fun _ h => h.1))
 replace BKz1 := mk (KeepBut.blk hk (g' := gbz0) (o := .cells #[.int .i64 tz0, .int .i64 tz2, .int .i64 tz1, .slice Ao12 tz3.length co12] 27 (0, 0)) BKz1.out NBz4.out (by simp))
 replace HB := mk (hb)
 replace HI71004 := mk (hi)
 (try clear hb)
 (try clear hk)
 (try clear hi)
 (try clear ho0)
 refine hK.out _ _ ⟨blk_cell BKz1.out 0, blk_cell BKz1.out 1, blk_cell BKz1.out 2, blk_cell BKz1.out 3⟩ (fun hHeld => ?_)
 clear hK K
 refine norm_ (a' := ?_) ?_ ?_
 rotate_left
 ·show Act.put _ (some 14) _ = _
  simp only [Act.put, List.setIfInBounds_toArray, List.set_cons_zero, List.set_cons_succ, i64_w, i32_w]
  rfl
 refine one_ (i := 5) (N := none) #[true, true, true, true, true, true, false] rfl rfl (by kernel_rfl) (by decide) (fun K hK => ?_)
 obtain ⟨hs16, -, -, -, hfs16, -⟩ := c4 BKz0.out
 have hns16_1 := NBz0.out
 have hms16_1 := NBz1.out
 obtain ⟨-, hs17, -, -, -, hfs17, -⟩ := c4 BKz0.out
 have hns17_1 := NBz0.out
 have hms17_1 := NBz1.out
 obtain ⟨-, -, hs18, -, -, -, hfs18, -⟩ := c4 BKz0.out
 have hns18_1 := NBz0.out
 have hms18_1 := NBz1.out
 obtain ⟨-, -, -, hs19, -, -, -, hfs19⟩ := c4 BKz0.out
 have hns19_1 := NBz0.out
 have hms19_1 := NBz1.out
 refine skip_ (w1 := ?_) (by rfl) rfl ?_ ?_
 rotate_left
 ·go_simp
  rfl
 refine hK.out _ _ ⟨((cell_far (p := ⟨gbz1, _, none⟩) NBz0.out _).trans (((cell_far (p := ⟨gbz1, _, none⟩) NBz0.out _).trans (((cell_far (p := ⟨gbz1, _, none⟩) NBz0.out _).trans (((cell_far (p := ⟨gbz1, _, none⟩) NBz0.out _).trans hHeld.1))))))), ((cell_far (p := ⟨gbz1, _, none⟩) NBz0.out _).trans (((cell_far (p := ⟨gbz1, _, none⟩) NBz0.out _).trans (((cell_far (p := ⟨gbz1, _, none⟩) NBz0.out _).trans (((cell_far (p := ⟨gbz1, _, none⟩) NBz0.out _).trans hHeld.2.1))))))), ((cell_far (p := ⟨gbz1, _, none⟩) NBz0.out _).trans (((cell_far (p := ⟨gbz1, _, none⟩) NBz0.out _).trans (((cell_far (p := ⟨gbz1, _, none⟩) NBz0.out _).trans (((cell_far (p := ⟨gbz1, _, none⟩) NBz0.out _).trans hHeld.2.2.1))))))), ((cell_far (p := ⟨gbz1, _, none⟩) NBz0.out _).trans (((cell_far (p := ⟨gbz1, _, none⟩) NBz0.out _).trans (((cell_far (p := ⟨gbz1, _, none⟩) NBz0.out _).trans (((cell_far (p := ⟨gbz1, _, none⟩) NBz0.out _).trans hHeld.2.2.2)))))))⟩ (fun hHeld => ?_)
 clear hK K
 refine pure_ (i := 6) (N := some 3) (v := ?_) (a' := ?_) #[true, true, true, true, true, true, true] rfl rfl (by kernel_rfl) (fun _ _ _ h => h) (Or.inl ⟨by rfl, ?_⟩) ?_ ?_
 rotate_left
 ·intro w'
  go_simp
  with_reducible rfl
 rotate_left
 ·simp only [Act.put, List.setIfInBounds_toArray, List.set_cons_zero, List.set_cons_succ, i64_w, i32_w]
  rfl
 refine done_ (by kernel_rfl) ?_
 try go_wp2
 refine bodyPost_ret (results_ct rfl _ _ gbz1 27 #[.int .i64 tz0, .int .i64 tz2, .int .i64 tz1, .slice Ao12 tz3.length co12] (0, 0) _ rfl (by refine blk_put (cs := #[.int .i64 tz0, .int .i64 tz2, .int .i64 tz1, .slice none 0 0]) ?_ 3 _ rfl; refine blk_put (cs := #[.int .i64 tz0, .int .i64 tz2, .int .i64 0, .slice none 0 0]) ?_ 2 _ rfl; refine blk_put (cs := #[.int .i64 tz0, .int .i64 0, .int .i64 0, .slice none 0 0]) ?_ 1 _ rfl; refine blk_put (cs := #[.int .i64 0, .int .i64 0, .int .i64 0, .slice none 0 0]) ?_ 0 _ rfl; exact BKz0.out) Try.underlying27 rfl (by kernel_rfl)) rfl ?_
 exact ⟨_, _, by rfl, by exact Kd.Q_mono (Kd.Q_far (p := ⟨gbz1, 3, none⟩) (Kd.Q_far (p := ⟨gbz1, 2, none⟩) (Kd.Q_far (p := ⟨gbz1, 1, none⟩) (Kd.Q_far (p := ⟨gbz1, 0, none⟩) (Kd.Q_types HOz0.out BKz0.out (by decide)) (fun _ hk => hk.2) (.int .i64 tz0)) (fun _ hk => hk.2) (.int .i64 tz2)) (fun _ hk => hk.2) (.int .i64 tz1)) (fun _ hk => hk.2) (.slice Ao12 tz3.length co12)) (fun _ hk => hk.1), by exact Kd.N_mono (Kd.N_far (p := ⟨gbz1, 3, none⟩) (Kd.N_far (p := ⟨gbz1, 2, none⟩) (Kd.N_far (p := ⟨gbz1, 1, none⟩) (Kd.N_far (p := ⟨gbz1, 0, none⟩) (Kd.N_mono HOz1.out (fun k_ hk => (⟨hk, hk.2.2.1⟩ : _ ∧ k_ ≠ gbz1))) (fun _ hk => hk.2) (.int .i64 tz0)) (fun _ hk => hk.2) (.int .i64 tz2)) (fun _ hk => hk.2) (.int .i64 tz1)) (fun _ hk => hk.2) (.slice Ao12 tz3.length co12)) (fun _ hk => ⟨hk.1.1, hk.1.2.1⟩), by repeat (with_reducible first | exact HB.out | refine below_set ?_ GEz0.out)⟩


mutual
def laws_FnFlattenLayers.j0 : Nat → List S55 → Bool → Bool → Bool → Int → Int → Int → List Int → Int → Int → Int → List Int → Int → Int → Int → List Int → Option (Bool)
 | 0, _, _, _, _, _, _, _, _, _, _, _, _, _, _, _, _ => none
 | k + 1, x4, x6, x8, x45, x14011000, x14011001, x14011002, x14011003, x14019000, x14019001, x14019002, x14019003, x14027000, x14027001, x14027002, x14027003 => if x45 = true then ((laws_equalImage.f k x14019000 x14019001 x14019002 x14019003 x14027000 x14027001 x14027002 x14027003).bind fun t14028 => (if t14028 = true then (some (x6 == x8)) else (some false))) else (laws_FnFlattenLayers.l0 k x4 0 x14019000 x14019001 x14019002 x14019003 x14011000 x14011001 x14011002 x14011003)
def laws_FnFlattenLayers.l0 : Nat → List S55 → Int → Int → Int → Int → List Int → Int → Int → Int → List Int → Option (Bool)
 | 0, _, _, _, _, _, _, _, _, _, _ => none
 | k + 1, x4, x10, x14019000, x14019001, x14019002, x14019003, x14030000, x14030001, x14030002, x14030003 => if x10 < (x4.length : Int) then (if 0 ≤ x10 then (if (rd_T55 x4 x10).f5 = true then (laws_FnFlattenLayers.l0 k x4 (wrap64 (x10 + 1)) x14019000 x14019001 x14019002 x14019003 x14030000 x14030001 x14030002 x14030003) else ((impl_CoverImage.f x14030000 x14030001 x14030002 x14030003 ((rd_T55 x4 x10).f0.f0) ((rd_T55 x4 x10).f0.f1) ((rd_T55 x4 x10).f0.f2) ((rd_T55 x4 x10).f0.f3) ((rd_T55 x4 x10).f1) ((rd_T55 x4 x10).f2) ((rd_T55 x4 x10).f3) ((rd_T55 x4 x10).f4) ((rd_T55 x4 x10).f5)).bind fun bt14033 => (if bt14033.2.2.2.2 = true then (laws_FnFlattenLayers.l0 k x4 (wrap64 (x10 + 1)) x14019000 x14019001 x14019002 x14019003 bt14033.1 bt14033.2.1 bt14033.2.2.1 bt14033.2.2.2.1) else (some false)))) else none) else ((laws_equalImage.f k x14030000 x14030001 x14030002 x14030003 x14019000 x14019001 x14019002 x14019003).bind fun t14030 => (some t14030))
end
def laws_FnFlattenLayers.f (k : Nat) (l0 : List Int) : Option Bool := if (l0.length : Int) > 1048576 then (some true) else ((spec_DrawFlattenLayers.f k l0).bind fun bt14001 => ((impl_FlattenLayers.f k bt14001.1 bt14001.2.1 bt14001.2.2.1 bt14001.2.2.2.1 bt14001.2.2.2.2).bind fun bt14011 => ((spec_FlattenLayers.f k bt14001.1 bt14001.2.1 bt14001.2.2.1 bt14001.2.2.2.1 bt14001.2.2.2.2).bind fun bt14019 => ((laws_equalImage.f k bt14011.1 bt14011.2.1 bt14011.2.2.1 bt14011.2.2.2.1 bt14019.1 bt14019.2.1 bt14019.2.2.1 bt14019.2.2.2.1).bind fun t14027 => (if t14027 = true then (if (bt14011.2.2.2.2 != bt14019.2.2.2.2) = true then (laws_FnFlattenLayers.j0 k bt14001.2.2.2.2 bt14011.2.2.2.2 bt14019.2.2.2.2 true bt14001.1 bt14001.2.1 bt14001.2.2.1 bt14001.2.2.2.1 bt14011.1 bt14011.2.1 bt14011.2.2.1 bt14011.2.2.2.1 bt14019.1 bt14019.2.1 bt14019.2.2.1 bt14019.2.2.2.1) else (laws_FnFlattenLayers.j0 k bt14001.2.2.2.2 bt14011.2.2.2.2 bt14019.2.2.2.2 (!bt14011.2.2.2.2) bt14001.1 bt14001.2.1 bt14001.2.2.1 bt14001.2.2.2.1 bt14011.1 bt14011.2.1 bt14011.2.2.1 bt14011.2.2.2.1 bt14019.1 bt14019.2.1 bt14019.2.2.1 bt14019.2.2.2.1)) else (laws_FnFlattenLayers.j0 k bt14001.2.2.2.2 bt14011.2.2.2.2 bt14019.2.2.2.2 true bt14001.1 bt14001.2.1 bt14001.2.2.1 bt14001.2.2.2.1 bt14011.1 bt14011.2.1 bt14011.2.2.1 bt14011.2.2.2.1 bt14019.1 bt14019.2.1 bt14019.2.2.1 bt14019.2.2.2.1))))))
theorem laws_FnFlattenLayers.mono_l : ∀ k, (∀ y0 y1 y2 y3 y4 y5 y6 y7 y8 y9 y10 y11 y12 y13 y14 y15, LeO (laws_FnFlattenLayers.j0 k y0 y1 y2 y3 y4 y5 y6 y7 y8 y9 y10 y11 y12 y13 y14 y15) (laws_FnFlattenLayers.j0 (k + 1) y0 y1 y2 y3 y4 y5 y6 y7 y8 y9 y10 y11 y12 y13 y14 y15)) ∧ (∀ y0 y1 y2 y3 y4 y5 y6 y7 y8 y9, LeO (laws_FnFlattenLayers.l0 k y0 y1 y2 y3 y4 y5 y6 y7 y8 y9) (laws_FnFlattenLayers.l0 (k + 1) y0 y1 y2 y3 y4 y5 y6 y7 y8 y9))
 | 0 => ⟨fun _ _ _ _ _ _ _ _ _ _ _ _ _ _ _ _ r h => by simp [laws_FnFlattenLayers.j0] at h, fun _ _ _ _ _ _ _ _ _ _ r h => by simp [laws_FnFlattenLayers.l0] at h⟩
 | k + 1 => by
  obtain ⟨ih0, ih1⟩ := laws_FnFlattenLayers.mono_l k
  refine ⟨?_, ?_⟩
  ·intro y0 y1 y2 y3 y4 y5 y6 y7 y8 y9 y10 y11 y12 y13 y14 y15
   unfold laws_FnFlattenLayers.j0
   repeat' first | (with_reducible exact ih1 _ _ _ _ _ _ _ _ _ _) | (with_reducible exact laws_equalImage.mono _ _ _ _ _ _ _ _ _) | (with_reducible exact LeO.refl _) | (with_reducible refine LeO.ite ?_ ?_) | (with_reducible refine LeO.bind ?_ (fun _ => ?_))
  ·intro y0 y1 y2 y3 y4 y5 y6 y7 y8 y9
   unfold laws_FnFlattenLayers.l0
   repeat' first | (with_reducible exact ih1 _ _ _ _ _ _ _ _ _ _) | (with_reducible exact laws_equalImage.mono _ _ _ _ _ _ _ _ _) | (with_reducible exact LeO.refl _) | (with_reducible refine LeO.ite ?_ ?_) | (with_reducible refine LeO.bind ?_ (fun _ => ?_))
theorem laws_FnFlattenLayers.mono : ∀ a0 k, LeO (laws_FnFlattenLayers.f k a0) (laws_FnFlattenLayers.f (k + 1) a0) := by
 intro a0 k
 obtain ⟨ih0, ih1⟩ := laws_FnFlattenLayers.mono_l k
 unfold laws_FnFlattenLayers.f
 repeat' first | (with_reducible exact ih0 _ _ _ _ _ _ _ _ _ _ _ _ _ _ _ _) | (with_reducible exact impl_FlattenLayers.mono _ _ _ _ _ _) | (with_reducible exact laws_equalImage.mono _ _ _ _ _ _ _ _ _) | (with_reducible exact spec_DrawFlattenLayers.mono _ _) | (with_reducible exact spec_FlattenLayers.mono _ _ _ _ _ _) | (with_reducible exact LeO.refl _) | (with_reducible refine LeO.ite ?_ ?_) | (with_reducible refine LeO.bind ?_ (fun _ => ?_))
def laws_FnFlattenLayers.T13 : Bool × List (List Nat × List Nat) := (true, [([], []), ([], []), ([], []), ([1, 2], [1, 2]), ([3], [3]), ([0, 4], [0, 4]), ([5], [5]), ([6], [6]), ([6], [6]), ([], []), ([9, 7, 5, 0, 1, 2, 3, 4, 5, 6, 7, 9], [7, 9]), ([8, 10, 0, 1, 2, 3, 4, 5, 6, 7, 8, 9, 10], [8])])
def laws_FnFlattenLayers.B13 : List Nat := [0, 0, 0, 6, 14, 31, 63, 127, 127, 0, 767, 2047]
theorem laws_FnFlattenLayers.tab13 : rtab .any (opsOf Try.f13 13) = laws_FnFlattenLayers.T13 := by kernel_rfl
theorem laws_FnFlattenLayers.bits13 : waitsOk laws_FnFlattenLayers.T13.2 laws_FnFlattenLayers.B13 = true := by kernel_rfl
set_option maxHeartbeats 8000000 in
set_option maxRecDepth 100000 in
theorem laws_FnFlattenLayers.calls (k : Nat) (A0 : Option Addr) (c0 : Nat) (l0 : List Int) (r : Bool) (w : World) (hr0 : Kd.C (Kd.int .u8) w A0 l0.length l0) (hc0 : l0.length ≤ c0) (h : laws_FnFlattenLayers.f k l0 = some r) (hrt : r = true) :
  Calls Try.prog 13 #[.slice A0 l0.length c0] w fun e w' => e = .returned (.bool r) ∧ Below w.heap.size w w' := by
 have HRT := mk hrt
 clear hrt
 have hu27 := Try.underlying27
 have hu55 := Try.underlying55
 have HR0 := mk hr0
 have HC0 := mk hc0
 clear hr0 hc0
 have HB := mk (Below.refl w.heap.size w)
 have H : (if (l0.length : Int) > 1048576 then (some true) else ((spec_DrawFlattenLayers.f k l0).bind fun bt14001 => ((impl_FlattenLayers.f k bt14001.1 bt14001.2.1 bt14001.2.2.1 bt14001.2.2.2.1 bt14001.2.2.2.2).bind fun bt14011 => ((spec_FlattenLayers.f k bt14001.1 bt14001.2.1 bt14001.2.2.1 bt14001.2.2.2.1 bt14001.2.2.2.2).bind fun bt14019 => ((laws_equalImage.f k bt14011.1 bt14011.2.1 bt14011.2.2.1 bt14011.2.2.2.1 bt14019.1 bt14019.2.1 bt14019.2.2.1 bt14019.2.2.2.1).bind fun t14027 => (if t14027 = true then (if (bt14011.2.2.2.2 != bt14019.2.2.2.2) = true then (laws_FnFlattenLayers.j0 k bt14001.2.2.2.2 bt14011.2.2.2.2 bt14019.2.2.2.2 true bt14001.1 bt14001.2.1 bt14001.2.2.1 bt14001.2.2.2.1 bt14011.1 bt14011.2.1 bt14011.2.2.1 bt14011.2.2.2.1 bt14019.1 bt14019.2.1 bt14019.2.2.1 bt14019.2.2.2.1) else (laws_FnFlattenLayers.j0 k bt14001.2.2.2.2 bt14011.2.2.2.2 bt14019.2.2.2.2 (!bt14011.2.2.2.2) bt14001.1 bt14001.2.1 bt14001.2.2.1 bt14001.2.2.2.1 bt14011.1 bt14011.2.1 bt14011.2.2.1 bt14011.2.2.2.1 bt14019.1 bt14019.2.1 bt14019.2.2.1 bt14019.2.2.2.1)) else (laws_FnFlattenLayers.j0 k bt14001.2.2.2.2 bt14011.2.2.2.2 bt14019.2.2.2.2 true bt14001.1 bt14001.2.1 bt14001.2.2.1 bt14001.2.2.2.1 bt14011.1 bt14011.2.1 bt14011.2.2.1 bt14011.2.2.2.1 bt14019.1 bt14019.2.1 bt14019.2.2.1 bt14019.2.2.2.1))))))) = some r := h
 clear h
 by_cases c2 : (l0.length : Int) > 1048576
 ·rw [if_pos c2] at H
  have c2b0 : decide (1048576 < (l0.length : Int)) = true := decide_eq_true c2
  have c2b1 : decide (1048576 < l0.length) = true := decide_eq_true (by omega)
  clear c2
  obtain rfl := Option.some.inj H
  go_enter Try.func13, Try.ntmps13
  go_wp2
  go_ret
  exact ⟨by rfl, by exact HB.out⟩
 ·rw [if_neg c2] at H
  have c2b0 : decide (1048576 < (l0.length : Int)) = false := decide_eq_false c2
  have c2b1 : decide (1048576 < l0.length) = false := decide_eq_false (by omega)
  clear c2
  replace H := Option.bind_eq_some_iff.mp H
  obtain ⟨⟨t14001, t14002, t14003, t14004, t14007⟩, A30, H⟩ := H
  replace H : ((impl_FlattenLayers.f k t14001 t14002 t14003 t14004 t14007).bind fun bt14011 => ((spec_FlattenLayers.f k t14001 t14002 t14003 t14004 t14007).bind fun bt14019 => ((laws_equalImage.f k bt14011.1 bt14011.2.1 bt14011.2.2.1 bt14011.2.2.2.1 bt14019.1 bt14019.2.1 bt14019.2.2.1 bt14019.2.2.2.1).bind fun t14027 => (if t14027 = true then (if (bt14011.2.2.2.2 != bt14019.2.2.2.2) = true then (laws_FnFlattenLayers.j0 k t14007 bt14011.2.2.2.2 bt14019.2.2.2.2 true t14001 t14002 t14003 t14004 bt14011.1 bt14011.2.1 bt14011.2.2.1 bt14011.2.2.2.1 bt14019.1 bt14019.2.1 bt14019.2.2.1 bt14019.2.2.2.1) else (laws_FnFlattenLayers.j0 k t14007 bt14011.2.2.2.2 bt14019.2.2.2.2 (!bt14011.2.2.2.2) t14001 t14002 t14003 t14004 bt14011.1 bt14011.2.1 bt14011.2.2.1 bt14011.2.2.2.1 bt14019.1 bt14019.2.1 bt14019.2.2.1 bt14019.2.2.2.1)) else (laws_FnFlattenLayers.j0 k t14007 bt14011.2.2.2.2 bt14019.2.2.2.2 true t14001 t14002 t14003 t14004 bt14011.1 bt14011.2.1 bt14011.2.2.1 bt14011.2.2.2.1 bt14019.1 bt14019.2.1 bt14019.2.2.1 bt14019.2.2.2.1))))) = some r := H
  have A3 := mk A30
  clear A30
  replace H := Option.bind_eq_some_iff.mp H
  obtain ⟨⟨t14011, t14012, t14013, t14014, t14017⟩, A40, H⟩ := H
  replace H : ((spec_FlattenLayers.f k t14001 t14002 t14003 t14004 t14007).bind fun bt14019 => ((laws_equalImage.f k t14011 t14012 t14013 t14014 bt14019.1 bt14019.2.1 bt14019.2.2.1 bt14019.2.2.2.1).bind fun t14027 => (if t14027 = true then (if (t14017 != bt14019.2.2.2.2) = true then (laws_FnFlattenLayers.j0 k t14007 t14017 bt14019.2.2.2.2 true t14001 t14002 t14003 t14004 t14011 t14012 t14013 t14014 bt14019.1 bt14019.2.1 bt14019.2.2.1 bt14019.2.2.2.1) else (laws_FnFlattenLayers.j0 k t14007 t14017 bt14019.2.2.2.2 (!t14017) t14001 t14002 t14003 t14004 t14011 t14012 t14013 t14014 bt14019.1 bt14019.2.1 bt14019.2.2.1 bt14019.2.2.2.1)) else (laws_FnFlattenLayers.j0 k t14007 t14017 bt14019.2.2.2.2 true t14001 t14002 t14003 t14004 t14011 t14012 t14013 t14014 bt14019.1 bt14019.2.1 bt14019.2.2.1 bt14019.2.2.2.1)))) = some r := H
  have A4 := mk A40
  clear A40
  replace H := Option.bind_eq_some_iff.mp H
  obtain ⟨⟨t14019, t14020, t14021, t14022, t14025⟩, A50, H⟩ := H
  replace H : ((laws_equalImage.f k t14011 t14012 t14013 t14014 t14019 t14020 t14021 t14022).bind fun t14027 => (if t14027 = true then (if (t14017 != t14025) = true then (laws_FnFlattenLayers.j0 k t14007 t14017 t14025 true t14001 t14002 t14003 t14004 t14011 t14012 t14013 t14014 t14019 t14020 t14021 t14022) else (laws_FnFlattenLayers.j0 k t14007 t14017 t14025 (!t14017) t14001 t14002 t14003 t14004 t14011 t14012 t14013 t14014 t14019 t14020 t14021 t14022)) else (laws_FnFlattenLayers.j0 k t14007 t14017 t14025 true t14001 t14002 t14003 t14004 t14011 t14012 t14013 t14014 t14019 t14020 t14021 t14022))) = some r := H
  have A5 := mk A50
  clear A50
  have HC6 := mk H
  clear H
  go_enter Try.func13, Try.ntmps13
  go_upto_region 6 with (first | ((with_reducible refine gate_callee (f := 70) rfl ?_); refine goesL_ (some 18) rfl rfl Try.func70 (by kernel_rfl) rfl #[.slice A0 l0.length c0] rfl (by (try simp only [List.map_toArray, List.map_cons, List.map_nil]); rfl) ?_; (with_reducible refine (spec_DrawFlattenLayers.calls k _ _ l0 t14001 t14002 t14003 t14004 t14007 _ ?side1 ?side2 A3.out).mono ?_); (case side1 => repeat (exact HR0.out)); (case side2 => exact HC0.out); rintro e w7 ⟨v14005, v14008, rfl, ho0, ho1, hb⟩; refine ⟨_, rfl, ?_⟩; have n0_ := mk (Kd.Q_lower (Kd.Q_mono (ok' := fun k_ => True) ho0 (fun _ hk_ => trivial)) (below_size HB.out)); have n1_ := mk (Kd.N_lower (Kd.N_mono (ok' := fun k_ => some k_ ≠ (v14005 : Value).ownBlock) ho1 (fun k_ hk_ => hk_.2)) (below_size HB.out)); have n2_ := mk (below_step HB.out hb); clear HB; have HO14006 := n0_; have HO14009 := n1_; have HB := n2_; clear n0_ n1_ n2_; (try clear hb); (try clear ho0); (try clear ho1)) | ((with_reducible refine gate_dst (N := 3) rfl ?_); refine box_event ?hg (N := 3) ?hd (cs := #[.int .i64 0, .int .i64 0, .int .i64 0, .slice none 0 0]) (t := 27) ?hr ?_; (case hd => rfl); (case hg => rfl); (case hr => (go_simp; done)); intro gb14010 hg w8 hbox hb; have n0_ := mk (Kd.Q_below HO14006.out hb); have n1_ := mk (Kd.N_below (Kd.N_elderB HO14009.out gb14010 (Nat.le_of_eq hg.symm)) hb); have n2_ := mk (below_step HB.out hb); have n3_ := mk (hbox); have n4_ := mk ((by rw [hg]; exact (below_size HB.out) : w.heap.size ≤ gb14010)); have n5_ := mk ((by rw [hg]; exact (below_size HB.out) : w.heap.size ≤ gb14010)); clear HO14006; clear HO14009; clear HB; have HO14006 := n0_; have HO14009 := n1_; have HB := n2_; have BK14010 := n3_; have GW14010 := n4_; have GE14010 := n5_; clear n0_ n1_ n2_ n3_ n4_ n5_; clear hb hbox hg; have hcz9_0 : w8.cell? ⟨gb14010, 0, none⟩ = some (.int .i64 0) := (blk_cell BK14010.out 0).trans rfl; have hcz9_1 : w8.cell? ⟨gb14010, 1, none⟩ = some (.int .i64 0) := (blk_cell BK14010.out 1).trans rfl; have hcz9_2 : w8.cell? ⟨gb14010, 2, none⟩ = some (.int .i64 0) := (blk_cell BK14010.out 2).trans rfl; have hcz9_3 : w8.cell? ⟨gb14010, 3, none⟩ = some (.slice none 0 0) := (blk_cell BK14010.out 3).trans rfl; have hfz9_0 := blk_frozen BK14010.out 0; have hfz9_1 := blk_frozen BK14010.out 1; have hfz9_2 := blk_frozen BK14010.out 2; have hfz9_3 := blk_frozen BK14010.out 3; obtain ⟨Ao10, co10, eo10, _⟩ := Kd.Q_slice HO14006.out; subst eo10; obtain ⟨Ao11, co11, eo11⟩ := Kd.N_slice HO14009.out; subst eo11) | ((with_reducible refine gate_callee (f := 67) rfl ?_); refine goesL_ (some 24) rfl rfl Try.func67 (by kernel_rfl) rfl #[.agg #[.int .i64 t14001, .int .i64 t14002, .int .i64 t14003, .slice Ao10 t14004.length co10], .slice Ao11 t14007.length co11] rfl (by (try simp only [List.map_toArray, List.map_cons, List.map_nil]); rfl) ?_; (with_reducible refine (impl_FlattenLayers.calls k t14001 t14002 t14003 _ _ t14004 _ _ t14007 t14011 t14012 t14013 t14014 t14017 _ ?side1 ?side2 ?side3 ?side4 A4.out).mono ?_); (case side1 => refine (Kd.Q_reads' (e := 3) (base := w.heap.size) (ok := fun k_ => True) (n := t14004.length) (c := co10) ?_).2.2; exact (by exact (Kd.Q_mono (Kd.Q_far (p := ⟨gb14010, 3, none⟩) (Kd.Q_far (p := ⟨gb14010, 2, none⟩) (Kd.Q_far (p := ⟨gb14010, 1, none⟩) (Kd.Q_far (p := ⟨gb14010, 0, none⟩) (Kd.Q_types HO14006.out BK14010.out (by decide)) (fun _ hk => hk.2) (.int .i64 t14001)) (fun _ hk => hk.2) (.int .i64 t14002)) (fun _ hk => hk.2) (.int .i64 t14003)) (fun _ hk => hk.2) (.slice Ao10 t14004.length co10)) (fun _ h_ => h_.1)))); (case side2 => exact (Kd.Q_reads' HO14006.out).2.1); (case side3 => refine (Kd.N_reads' (e := 55) (base := w.heap.size) (ok := fun k_ => (some k_ ≠ (.slice Ao10 t14004.length co10 : Value).ownBlock ∧ k_ ≠ gb14010)) (n := t14007.length) (c := co11) ?_).2.2; exact (by exact (Kd.N_mono (Kd.N_far (p := ⟨gb14010, 3, none⟩) (Kd.N_far (p := ⟨gb14010, 2, none⟩) (Kd.N_far (p := ⟨gb14010, 1, none⟩) (Kd.N_far (p := ⟨gb14010, 0, none⟩) (Kd.N_mono HO14009.out (fun k_ hk => (⟨hk, hk.2⟩ : _ ∧ k_ ≠ gb14010))) (fun _ hk => hk.2) (.int .i64 t14001)) (fun _ hk => hk.2) (.int .i64 t14002)) (fun _ hk => hk.2) (.int .i64 t14003)) (fun _ hk => hk.2) (.slice Ao10 t14004.length co10)) (fun _ h_ => h_.1)))); (case side4 => exact (Kd.N_reads' HO14009.out).2.1); rintro e w12 ⟨v14015, rfl, ho0, hb⟩; refine ⟨_, rfl, ?_⟩; have n0_ := mk (Kd.Q_elder' (by exact (Kd.Q_mono (Kd.Q_far (p := ⟨gb14010, 3, none⟩) (Kd.Q_far (p := ⟨gb14010, 2, none⟩) (Kd.Q_far (p := ⟨gb14010, 1, none⟩) (Kd.Q_far (p := ⟨gb14010, 0, none⟩) (Kd.Q_types HO14006.out BK14010.out (by decide)) (fun _ hk => hk.2) (.int .i64 t14001)) (fun _ hk => hk.2) (.int .i64 t14002)) (fun _ hk => hk.2) (.int .i64 t14003)) (fun _ hk => hk.2) (.slice Ao10 t14004.length co10)) (fun _ h_ => h_.1))) (Kd.R_base ho0) hb); have n1_ := mk (Kd.N_elder' (by exact (Kd.N_mono (Kd.N_far (p := ⟨gb14010, 3, none⟩) (Kd.N_far (p := ⟨gb14010, 2, none⟩) (Kd.N_far (p := ⟨gb14010, 1, none⟩) (Kd.N_far (p := ⟨gb14010, 0, none⟩) (Kd.N_mono HO14009.out (fun k_ hk => (⟨hk, hk.2⟩ : _ ∧ k_ ≠ gb14010))) (fun _ hk => hk.2) (.int .i64 t14001)) (fun _ hk => hk.2) (.int .i64 t14002)) (fun _ hk => hk.2) (.int .i64 t14003)) (fun _ hk => hk.2) (.slice Ao10 t14004.length co10)) (fun _ h_ => h_.1))) (Kd.R_base ho0) hb); have n2_ := mk (Kd.R_lower (Kd.R_new' ho0 (Kd.Q_lt (by exact (Kd.Q_mono (Kd.Q_far (p := ⟨gb14010, 3, none⟩) (Kd.Q_far (p := ⟨gb14010, 2, none⟩) (Kd.Q_far (p := ⟨gb14010, 1, none⟩) (Kd.Q_far (p := ⟨gb14010, 0, none⟩) (Kd.Q_types HO14006.out BK14010.out (by decide)) (fun _ hk => hk.2) (.int .i64 t14001)) (fun _ hk => hk.2) (.int .i64 t14002)) (fun _ hk => hk.2) (.int .i64 t14003)) (fun _ hk => hk.2) (.slice Ao10 t14004.length co10)) (fun _ h_ => h_.1))))) (below_size (by repeat (with_reducible first | exact HB.out | refine below_set ?_ GE14010.out)))); have n3_ := mk (blk_below (g := gb14010) (o := .cells #[.int .i64 t14001, .int .i64 t14002, .int .i64 t14003, .slice Ao10 t14004.length co10] 27 (0, 0)) (by refine blk_put (cs := #[.int .i64 t14001, .int .i64 t14002, .int .i64 t14003, .slice none 0 0]) ?_ 3 _ rfl; (with_reducible repeat (first | refine blk_drewN ?_ _ | refine blk_drew ?_ | refine blk_alloc ?_ _)); refine blk_put (cs := #[.int .i64 t14001, .int .i64 t14002, .int .i64 0, .slice none 0 0]) ?_ 2 _ rfl; (with_reducible repeat (first | refine blk_drewN ?_ _ | refine blk_drew ?_ | refine blk_alloc ?_ _)); refine blk_put (cs := #[.int .i64 t14001, .int .i64 0, .int .i64 0, .slice none 0 0]) ?_ 1 _ rfl; (with_reducible repeat (first | refine blk_drewN ?_ _ | refine blk_drew ?_ | refine blk_alloc ?_ _)); refine blk_put (cs := #[.int .i64 0, .int .i64 0, .int .i64 0, .slice none 0 0]) ?_ 0 _ rfl; (with_reducible repeat (first | refine blk_drewN ?_ _ | refine blk_drew ?_ | refine blk_alloc ?_ _)); exact BK14010.out) hb); have n4_ := mk (below_step (by repeat (with_reducible first | exact HB.out | refine below_set ?_ GE14010.out)) hb); clear HO14006; clear HO14009; clear BK14010; clear HB; have HO14006 := n0_; have HO14009 := n1_; have HO14016 := n2_; have BK14010 := n3_; have HB := n4_; clear n0_ n1_ n2_ n3_ n4_; (try clear hb); (try clear ho0)) | ((with_reducible refine gate_dst (N := 5) rfl ?_); refine box_event ?hg (N := 5) ?hd (cs := #[.int .i64 0, .int .i64 0, .int .i64 0, .slice none 0 0]) (t := 27) ?hr ?_; (case hd => rfl); (case hg => rfl); (case hr => (go_simp; done)); intro gb14018 hg w13 hbox hb; have n0_ := mk (Kd.Q_below HO14006.out hb); have n1_ := mk (Kd.N_below (Kd.N_elderB HO14009.out gb14018 (Nat.le_of_eq hg.symm)) hb); have n2_ := mk (Kd.R_below HO14016.out hb); have n3_ := mk (blk_below BK14010.out hb); have n4_ := mk (below_step HB.out hb); have n5_ := mk (hbox); have n6_ := mk ((by rw [hg]; exact (below_size HB.out) : w.heap.size ≤ gb14018)); have n7_ := mk ((by rw [hg]; exact (below_size HB.out) : w.heap.size ≤ gb14018)); have n8_ := mk ((by rw [hg]; exact Nat.ne_of_lt (blk_lt BK14010.out) : gb14010 ≠ gb14018)); have n9_ := mk ((by rw [hg]; exact Nat.ne_of_gt (blk_lt BK14010.out) : gb14018 ≠ gb14010)); clear HO14006; clear HO14009; clear HO14016; clear BK14010; clear HB; have HO14006 := n0_; have HO14009 := n1_; have HO14016 := n2_; have BK14010 := n3_; have HB := n4_; have BK14018 := n5_; have GW14018 := n6_; have GE14018 := n7_; have NB14010_14018 := n8_; have NB14018_14010 := n9_; clear n0_ n1_ n2_ n3_ n4_ n5_ n6_ n7_ n8_ n9_; clear hb hbox hg; have hnb14 := NB14018_14010.out; have hnc14 := NB14010_14018.out; have hcz15_0 : w13.cell? ⟨gb14018, 0, none⟩ = some (.int .i64 0) := (blk_cell BK14018.out 0).trans rfl; have hcz15_1 : w13.cell? ⟨gb14018, 1, none⟩ = some (.int .i64 0) := (blk_cell BK14018.out 1).trans rfl; have hcz15_2 : w13.cell? ⟨gb14018, 2, none⟩ = some (.int .i64 0) := (blk_cell BK14018.out 2).trans rfl; have hcz15_3 : w13.cell? ⟨gb14018, 3, none⟩ = some (.slice none 0 0) := (blk_cell BK14018.out 3).trans rfl; have hfz15_0 := blk_frozen BK14018.out 0; have hfz15_1 := blk_frozen BK14018.out 1; have hfz15_2 := blk_frozen BK14018.out 2; have hfz15_3 := blk_frozen BK14018.out 3; obtain ⟨Ao16, co16, eo16⟩ := Kd.R_slice HO14016.out; subst eo16; have hcz17_0 : w13.cell? ⟨gb14010, 0, none⟩ = some (.int .i64 t14001) := (blk_cell BK14010.out 0).trans rfl; have hcz17_1 : w13.cell? ⟨gb14010, 1, none⟩ = some (.int .i64 t14002) := (blk_cell BK14010.out 1).trans rfl; have hcz17_2 : w13.cell? ⟨gb14010, 2, none⟩ = some (.int .i64 t14003) := (blk_cell BK14010.out 2).trans rfl; have hcz17_3 : w13.cell? ⟨gb14010, 3, none⟩ = some (.slice Ao10 t14004.length co10) := (blk_cell BK14010.out 3).trans rfl; have hfz17_0 := blk_frozen BK14010.out 0; have hfz17_1 := blk_frozen BK14010.out 1; have hfz17_2 := blk_frozen BK14010.out 2; have hfz17_3 := blk_frozen BK14010.out 3) | ((with_reducible refine gate_callee (f := 65) rfl ?_); refine goesL_ (some 30) rfl rfl Try.func65 (by kernel_rfl) rfl #[.agg #[.int .i64 t14001, .int .i64 t14002, .int .i64 t14003, .slice Ao10 t14004.length co10], .slice Ao11 t14007.length co11] rfl (by (try simp only [List.map_toArray, List.map_cons, List.map_nil]); rfl) ?_; (with_reducible refine (spec_FlattenLayers.calls k t14001 t14002 t14003 _ _ t14004 _ _ t14007 t14019 t14020 t14021 t14022 t14025 _ ?side1 ?side2 ?side3 ?side4 A5.out).mono ?_); (case side1 => refine (Kd.Q_reads' (e := 3) (base := w.heap.size) (ok := fun k_ => (True ∧ some k_ ≠ (.slice Ao16 t14014.length co16 : Value).ownBlock)) (n := t14004.length) (c := co10) ?_).2.2; exact (by exact (Kd.Q_mono (Kd.Q_far (p := ⟨gb14018, 3, none⟩) (Kd.Q_far (p := ⟨gb14018, 2, none⟩) (Kd.Q_far (p := ⟨gb14018, 1, none⟩) (Kd.Q_far (p := ⟨gb14018, 0, none⟩) (Kd.Q_types HO14006.out BK14018.out (by decide)) (fun _ hk => hk.2) (.int .i64 t14011)) (fun _ hk => hk.2) (.int .i64 t14012)) (fun _ hk => hk.2) (.int .i64 t14013)) (fun _ hk => hk.2) (.slice Ao16 t14014.length co16)) (fun _ h_ => h_.1)))); (case side2 => exact (Kd.Q_reads' HO14006.out).2.1); (case side3 => refine (Kd.N_reads' (e := 55) (base := w.heap.size) (ok := fun k_ => (((some k_ ≠ (.slice Ao10 t14004.length co10 : Value).ownBlock ∧ k_ ≠ gb14010) ∧ some k_ ≠ (.slice Ao16 t14014.length co16 : Value).ownBlock) ∧ k_ ≠ gb14018)) (n := t14007.length) (c := co11) ?_).2.2; exact (by exact (Kd.N_mono (Kd.N_far (p := ⟨gb14018, 3, none⟩) (Kd.N_far (p := ⟨gb14018, 2, none⟩) (Kd.N_far (p := ⟨gb14018, 1, none⟩) (Kd.N_far (p := ⟨gb14018, 0, none⟩) (Kd.N_mono HO14009.out (fun k_ hk => (⟨hk, hk.2⟩ : _ ∧ k_ ≠ gb14018))) (fun _ hk => hk.2) (.int .i64 t14011)) (fun _ hk => hk.2) (.int .i64 t14012)) (fun _ hk => hk.2) (.int .i64 t14013)) (fun _ hk => hk.2) (.slice Ao16 t14014.length co16)) (fun _ h_ => h_.1)))); (case side4 => exact (Kd.N_reads' HO14009.out).2.1); rintro e w18 ⟨v14023, rfl, ho0, hb⟩; refine ⟨_, rfl, ?_⟩; have n0_ := mk (Kd.Q_elder' (by exact (Kd.Q_mono (Kd.Q_far (p := ⟨gb14018, 3, none⟩) (Kd.Q_far (p := ⟨gb14018, 2, none⟩) (Kd.Q_far (p := ⟨gb14018, 1, none⟩) (Kd.Q_far (p := ⟨gb14018, 0, none⟩) (Kd.Q_types HO14006.out BK14018.out (by decide)) (fun _ hk => hk.2) (.int .i64 t14011)) (fun _ hk => hk.2) (.int .i64 t14012)) (fun _ hk => hk.2) (.int .i64 t14013)) (fun _ hk => hk.2) (.slice Ao16 t14014.length co16)) (fun _ h_ => h_.1))) (Kd.R_base ho0) hb); have n1_ := mk (Kd.N_elder' (by exact (Kd.N_mono (Kd.N_far (p := ⟨gb14018, 3, none⟩) (Kd.N_far (p := ⟨gb14018, 2, none⟩) (Kd.N_far (p := ⟨gb14018, 1, none⟩) (Kd.N_far (p := ⟨gb14018, 0, none⟩) (Kd.N_mono HO14009.out (fun k_ hk => (⟨hk, hk.2⟩ : _ ∧ k_ ≠ gb14018))) (fun _ hk => hk.2) (.int .i64 t14011)) (fun _ hk => hk.2) (.int .i64 t14012)) (fun _ hk => hk.2) (.int .i64 t14013)) (fun _ hk => hk.2) (.slice Ao16 t14014.length co16)) (fun _ h_ => h_.1))) (Kd.R_base ho0) hb); have n2_ := mk (Kd.R_elder' (by exact (Kd.R_mono (Kd.R_far (p := ⟨gb14018, 3, none⟩) (Kd.R_far (p := ⟨gb14018, 2, none⟩) (Kd.R_far (p := ⟨gb14018, 1, none⟩) (Kd.R_far (p := ⟨gb14018, 0, none⟩) (Kd.R_types HO14016.out BK14018.out (by decide)) (fun _ hk => hk.2) (.int .i64 t14011)) (fun _ hk => hk.2) (.int .i64 t14012)) (fun _ hk => hk.2) (.int .i64 t14013)) (fun _ hk => hk.2) (.slice Ao16 t14014.length co16)) (fun _ h_ => h_.1))) (Kd.R_base ho0) hb); have n3_ := mk (Kd.R_lower (Kd.R_new' (Kd.R_new' ho0 (Kd.Q_lt (by exact (Kd.Q_mono (Kd.Q_far (p := ⟨gb14018, 3, none⟩) (Kd.Q_far (p := ⟨gb14018, 2, none⟩) (Kd.Q_far (p := ⟨gb14018, 1, none⟩) (Kd.Q_far (p := ⟨gb14018, 0, none⟩) (Kd.Q_types HO14006.out BK14018.out (by decide)) (fun _ hk => hk.2) (.int .i64 t14011)) (fun _ hk => hk.2) (.int .i64 t14012)) (fun _ hk => hk.2) (.int .i64 t14013)) (fun _ hk => hk.2) (.slice Ao16 t14014.length co16)) (fun _ h_ => h_.1))))) (Kd.R_lt (by exact (Kd.R_mono (Kd.R_far (p := ⟨gb14018, 3, none⟩) (Kd.R_far (p := ⟨gb14018, 2, none⟩) (Kd.R_far (p := ⟨gb14018, 1, none⟩) (Kd.R_far (p := ⟨gb14018, 0, none⟩) (Kd.R_types HO14016.out BK14018.out (by decide)) (fun _ hk => hk.2) (.int .i64 t14011)) (fun _ hk => hk.2) (.int .i64 t14012)) (fun _ hk => hk.2) (.int .i64 t14013)) (fun _ hk => hk.2) (.slice Ao16 t14014.length co16)) (fun _ h_ => h_.1))))) (below_size (by repeat (with_reducible first | exact HB.out | refine below_set ?_ GE14018.out)))); have n4_ := mk (blk_below (g := gb14010) (o := .cells #[.int .i64 t14001, .int .i64 t14002, .int .i64 t14003, .slice Ao10 t14004.length co10] 27 (0, 0)) (by refine blk_far ?_ NB14010_14018.out _; (with_reducible repeat (first | refine blk_drewN ?_ _ | refine blk_drew ?_ | refine blk_alloc ?_ _)); refine blk_far ?_ NB14010_14018.out _; (with_reducible repeat (first | refine blk_drewN ?_ _ | refine blk_drew ?_ | refine blk_alloc ?_ _)); refine blk_far ?_ NB14010_14018.out _; (with_reducible repeat (first | refine blk_drewN ?_ _ | refine blk_drew ?_ | refine blk_alloc ?_ _)); refine blk_far ?_ NB14010_14018.out _; (with_reducible repeat (first | refine blk_drewN ?_ _ | refine blk_drew ?_ | refine blk_alloc ?_ _)); exact BK14010.out) hb); have n5_ := mk (blk_below (g := gb14018) (o := .cells #[.int .i64 t14011, .int .i64 t14012, .int .i64 t14013, .slice Ao16 t14014.length co16] 27 (0, 0)) (by refine blk_put (cs := #[.int .i64 t14011, .int .i64 t14012, .int .i64 t14013, .slice none 0 0]) ?_ 3 _ rfl; (with_reducible repeat (first | refine blk_drewN ?_ _ | refine blk_drew ?_ | refine blk_alloc ?_ _)); refine blk_put (cs := #[.int .i64 t14011, .int .i64 t14012, .int .i64 0, .slice none 0 0]) ?_ 2 _ rfl; (with_reducible repeat (first | refine blk_drewN ?_ _ | refine blk_drew ?_ | refine blk_alloc ?_ _)); refine blk_put (cs := #[.int .i64 t14011, .int .i64 0, .int .i64 0, .slice none 0 0]) ?_ 1 _ rfl; (with_reducible repeat (first | refine blk_drewN ?_ _ | refine blk_drew ?_ | refine blk_alloc ?_ _)); refine blk_put (cs := #[.int .i64 0, .int .i64 0, .int .i64 0, .slice none 0 0]) ?_ 0 _ rfl; (with_reducible repeat (first | refine blk_drewN ?_ _ | refine blk_drew ?_ | refine blk_alloc ?_ _)); exact BK14018.out) hb); have n6_ := mk (below_step (by repeat (with_reducible first | exact HB.out | refine below_set ?_ GE14018.out)) hb); clear HO14006; clear HO14009; clear HO14016; clear BK14010; clear BK14018; clear HB; have HO14006 := n0_; have HO14009 := n1_; have HO14016 := n2_; have HO14024 := n3_; have BK14010 := n4_; have BK14018 := n5_; have HB := n6_; clear n0_ n1_ n2_ n3_ n4_ n5_ n6_; (try clear hb); (try clear ho0)) | ((with_reducible refine gate_dst (N := 7) rfl ?_); refine box_event ?hg (N := 7) ?hd (cs := #[.int .i64 0, .int .i64 0, .int .i64 0, .slice none 0 0]) (t := 27) ?hr ?_; (case hd => rfl); (case hg => rfl); (case hr => (go_simp; done)); intro gb14026 hg w19 hbox hb; have n0_ := mk (Kd.Q_below HO14006.out hb); have n1_ := mk (Kd.N_below (Kd.N_elderB HO14009.out gb14026 (Nat.le_of_eq hg.symm)) hb); have n2_ := mk (Kd.R_below HO14016.out hb); have n3_ := mk (Kd.R_below HO14024.out hb); have n4_ := mk (blk_below BK14010.out hb); have n5_ := mk (blk_below BK14018.out hb); have n6_ := mk (below_step HB.out hb); have n7_ := mk (hbox); have n8_ := mk ((by rw [hg]; exact (below_size HB.out) : w.heap.size ≤ gb14026)); have n9_ := mk ((by rw [hg]; exact (below_size HB.out) : w.heap.size ≤ gb14026)); have n10_ := mk ((by rw [hg]; exact Nat.ne_of_lt (blk_lt BK14010.out) : gb14010 ≠ gb14026)); have n11_ := mk ((by rw [hg]; exact Nat.ne_of_gt (blk_lt BK14010.out) : gb14026 ≠ gb14010)); have n12_ := mk ((by rw [hg]; exact Nat.ne_of_lt (blk_lt BK14018.out) : gb14018 ≠ gb14026)); have n13_ := mk ((by rw [hg]; exact Nat.ne_of_gt (blk_lt BK14018.out) : gb14026 ≠ gb14018)); clear HO14006; clear HO14009; clear HO14016; clear HO14024; clear BK14010; clear BK14018; clear HB; have HO14006 := n0_; have HO14009 := n1_; have HO14016 := n2_; have HO14024 := n3_; have BK14010 := n4_; have BK14018 := n5_; have HB := n6_; have BK14026 := n7_; have GW14026 := n8_; have GE14026 := n9_; have NB14010_14026 := n10_; have NB14026_14010 := n11_; have NB14018_14026 := n12_; have NB14026_14018 := n13_; clear n0_ n1_ n2_ n3_ n4_ n5_ n6_ n7_ n8_ n9_ n10_ n11_ n12_ n13_; clear hb hbox hg; have hnb20 := NB14026_14010.out; have hnc20 := NB14010_14026.out; have hnb21 := NB14026_14018.out; have hnc21 := NB14018_14026.out; have hcz22_0 : w19.cell? ⟨gb14026, 0, none⟩ = some (.int .i64 0) := (blk_cell BK14026.out 0).trans rfl; have hcz22_1 : w19.cell? ⟨gb14026, 1, none⟩ = some (.int .i64 0) := (blk_cell BK14026.out 1).trans rfl; have hcz22_2 : w19.cell? ⟨gb14026, 2, none⟩ = some (.int .i64 0) := (blk_cell BK14026.out 2).trans rfl; have hcz22_3 : w19.cell? ⟨gb14026, 3, none⟩ = some (.slice none 0 0) := (blk_cell BK14026.out 3).trans rfl; have hfz22_0 := blk_frozen BK14026.out 0; have hfz22_1 := blk_frozen BK14026.out 1; have hfz22_2 := blk_frozen BK14026.out 2; have hfz22_3 := blk_frozen BK14026.out 3; obtain ⟨Ao23, co23, eo23⟩ := Kd.R_slice HO14024.out; subst eo23))
  go_cut [45] (fun v45 wc => ∃ (kq : Nat) (x45_5 : Bool), v45 = .bool x45_5 ∧ Aside0 (laws_FnFlattenLayers.j0 kq t14007 t14017 t14025 x45_5 t14001 t14002 t14003 t14004 t14011 t14012 t14013 t14014 t14019 t14020 t14021 t14022 = some r) ∧ Aside0 (kq ≤ k) ∧ Aside0 (Kd.N k55 55 wc w.heap.size (fun k_ => some k_ ≠ ((.slice Ao10 t14004.length co10) : Value).ownBlock ∧ some k_ ≠ ((.slice Ao16 t14014.length co16) : Value).ownBlock ∧ some k_ ≠ ((.slice Ao23 t14022.length co23) : Value).ownBlock ∧ k_ ≠ gb14010 ∧ k_ ≠ gb14018 ∧ k_ ≠ gb14026) (.slice Ao11 t14007.length co11) t14007) ∧ Aside0 (Kd.Q (Kd.int .i64) 3 wc w.heap.size (fun k_ => some k_ ≠ ((.slice Ao16 t14014.length co16) : Value).ownBlock ∧ some k_ ≠ ((.slice Ao23 t14022.length co23) : Value).ownBlock) (.slice Ao10 t14004.length co10) t14004) ∧ Aside0 (Kd.Q (Kd.int .i64) 3 wc w.heap.size (fun k_ => some k_ ≠ ((.slice Ao10 t14004.length co10) : Value).ownBlock ∧ some k_ ≠ ((.slice Ao23 t14022.length co23) : Value).ownBlock) (.slice Ao16 t14014.length co16) t14014) ∧ Aside0 (Kd.Q (Kd.int .i64) 3 wc w.heap.size (fun k_ => some k_ ≠ ((.slice Ao10 t14004.length co10) : Value).ownBlock ∧ some k_ ≠ ((.slice Ao16 t14014.length co16) : Value).ownBlock) (.slice Ao23 t14022.length co23) t14022) ∧ Aside0 (wc.heap[gb14010]? = some (.cells #[.int .i64 t14001, .int .i64 t14002, .int .i64 t14003, (.slice Ao10 t14004.length co10)] 27 (0, 0))) ∧ Aside0 (wc.heap[gb14018]? = some (.cells #[.int .i64 t14011, .int .i64 t14012, .int .i64 t14013, (.slice Ao16 t14014.length co16)] 27 (0, 0))) ∧ Aside0 (wc.heap[gb14026]? = some (.cells #[.int .i64 t14019, .int .i64 t14020, .int .i64 t14021, (.slice Ao23 t14022.length co23)] 27 (0, 0))) ∧ Aside0 (Below w.heap.size w wc))
  case first =>
   have H := HC6.out
   clear HC6
   replace H := Option.bind_eq_some_iff.mp H
   obtain ⟨t14027, A240, H⟩ := H
   replace H : (if t14027 = true then (if (t14017 != t14025) = true then (laws_FnFlattenLayers.j0 k t14007 t14017 t14025 true t14001 t14002 t14003 t14004 t14011 t14012 t14013 t14014 t14019 t14020 t14021 t14022) else (laws_FnFlattenLayers.j0 k t14007 t14017 t14025 (!t14017) t14001 t14002 t14003 t14004 t14011 t14012 t14013 t14014 t14019 t14020 t14021 t14022)) else (laws_FnFlattenLayers.j0 k t14007 t14017 t14025 true t14001 t14002 t14003 t14004 t14011 t14012 t14013 t14014 t14019 t14020 t14021 t14022)) = some r := H
   have A24 := mk A240
   clear A240
   by_cases c25 : t14027 = true
   ·subst c25
    have H1 : (if (t14017 != t14025) = true then (laws_FnFlattenLayers.j0 k t14007 t14017 t14025 true t14001 t14002 t14003 t14004 t14011 t14012 t14013 t14014 t14019 t14020 t14021 t14022) else (laws_FnFlattenLayers.j0 k t14007 t14017 t14025 (!t14017) t14001 t14002 t14003 t14004 t14011 t14012 t14013 t14014 t14019 t14020 t14021 t14022)) = some r := by rw [if_pos rfl] at H; exact H
    clear H
    have H := H1
    clear H1
    by_cases c26 : (t14017 != t14025) = true
    ·rw [if_pos c26] at H
     have c26b0 : (t14017 != t14025) = true := c26
     (try (have c26b1 : decide (t14017 = t14025) = false := by simpa using c26))
     (try (have c26b2 : (t14017 == t14025) = false := by simpa using c26))
     (try (have c26b3 : ¬ (t14017 = t14025) := by simpa using c26))
     clear c26
     (skip)
     have H' := mk H
     clear H
     have hnb27 := NB14018_14010.out
     have hnc27 := NB14010_14018.out
     have hnb28 := NB14018_14026.out
     have hnc28 := NB14026_14018.out
     have hcz29_0 : w19.cell? ⟨gb14018, 0, none⟩ = some (.int .i64 t14011) := (blk_cell BK14018.out 0).trans rfl
     have hcz29_1 : w19.cell? ⟨gb14018, 1, none⟩ = some (.int .i64 t14012) := (blk_cell BK14018.out 1).trans rfl
     have hcz29_2 : w19.cell? ⟨gb14018, 2, none⟩ = some (.int .i64 t14013) := (blk_cell BK14018.out 2).trans rfl
     have hcz29_3 : w19.cell? ⟨gb14018, 3, none⟩ = some (.slice Ao16 t14014.length co16) := (blk_cell BK14018.out 3).trans rfl
     have hfz29_0 := blk_frozen BK14018.out 0
     have hfz29_1 := blk_frozen BK14018.out 1
     have hfz29_2 := blk_frozen BK14018.out 2
     have hfz29_3 := blk_frozen BK14018.out 3
     have hnb30 := NB14026_14010.out
     have hnc30 := NB14010_14026.out
     have hcz31_0 : w19.cell? ⟨gb14026, 0, none⟩ = some (.int .i64 0) := (blk_cell BK14026.out 0).trans rfl
     have hcz31_1 : w19.cell? ⟨gb14026, 1, none⟩ = some (.int .i64 0) := (blk_cell BK14026.out 1).trans rfl
     have hcz31_2 : w19.cell? ⟨gb14026, 2, none⟩ = some (.int .i64 0) := (blk_cell BK14026.out 2).trans rfl
     have hcz31_3 : w19.cell? ⟨gb14026, 3, none⟩ = some (.slice none 0 0) := (blk_cell BK14026.out 3).trans rfl
     have hfz31_0 := blk_frozen BK14026.out 0
     have hfz31_1 := blk_frozen BK14026.out 1
     have hfz31_2 := blk_frozen BK14026.out 2
     have hfz31_3 := blk_frozen BK14026.out 3
     go_wp2_with (first | ((with_reducible refine gate_callee (f := 26) rfl ?_); refine goesL_ (some 35) rfl rfl Try.func26 (by kernel_rfl) rfl #[.agg #[.int .i64 t14011, .int .i64 t14012, .int .i64 t14013, .slice Ao16 t14014.length co16], .agg #[.int .i64 t14019, .int .i64 t14020, .int .i64 t14021, .slice Ao23 t14022.length co23]] rfl (by (try simp only [List.map_toArray, List.map_cons, List.map_nil]); rfl) ?_; (with_reducible refine (laws_equalImage.calls k t14011 t14012 t14013 _ _ t14014 t14019 t14020 t14021 _ _ t14022 true _ ?side1 ?side2 ?side3 ?side4 A24.out).mono ?_); (case side1 => refine (Kd.R_reads' (e := 3) (base := w.heap.size) (ok := fun k_ => ((True ∧ some k_ ≠ (.slice Ao10 t14004.length co10 : Value).ownBlock) ∧ some k_ ≠ (.slice Ao23 t14022.length co23 : Value).ownBlock)) (n := t14014.length) (c := co16) ?_).2.2; exact (by exact (Kd.R_mono (Kd.R_far (p := ⟨gb14026, 3, none⟩) (Kd.R_far (p := ⟨gb14026, 2, none⟩) (Kd.R_far (p := ⟨gb14026, 1, none⟩) (Kd.R_far (p := ⟨gb14026, 0, none⟩) (Kd.R_types HO14016.out BK14026.out (by decide)) (fun _ hk => hk.2) (.int .i64 t14019)) (fun _ hk => hk.2) (.int .i64 t14020)) (fun _ hk => hk.2) (.int .i64 t14021)) (fun _ hk => hk.2) (.slice Ao23 t14022.length co23)) (fun _ h_ => h_.1)))); (case side2 => exact (Kd.R_reads' HO14016.out).2.1); (case side3 => refine (Kd.R_reads' (e := 3) (base := w.heap.size) (ok := fun k_ => ((True ∧ some k_ ≠ (.slice Ao10 t14004.length co10 : Value).ownBlock) ∧ some k_ ≠ (.slice Ao16 t14014.length co16 : Value).ownBlock)) (n := t14022.length) (c := co23) ?_).2.2; exact (by exact (Kd.R_mono (Kd.R_far (p := ⟨gb14026, 3, none⟩) (Kd.R_far (p := ⟨gb14026, 2, none⟩) (Kd.R_far (p := ⟨gb14026, 1, none⟩) (Kd.R_far (p := ⟨gb14026, 0, none⟩) (Kd.R_types HO14024.out BK14026.out (by decide)) (fun _ hk => hk.2) (.int .i64 t14019)) (fun _ hk => hk.2) (.int .i64 t14020)) (fun _ hk => hk.2) (.int .i64 t14021)) (fun _ hk => hk.2) (.slice Ao23 t14022.length co23)) (fun _ h_ => h_.1)))); (case side4 => exact (Kd.R_reads' HO14024.out).2.1); rintro e w32 ⟨rfl, hb⟩; refine ⟨_, rfl, ?_⟩; have n0_ := mk (Kd.Q_below (by exact (Kd.Q_mono (Kd.Q_far (p := ⟨gb14026, 3, none⟩) (Kd.Q_far (p := ⟨gb14026, 2, none⟩) (Kd.Q_far (p := ⟨gb14026, 1, none⟩) (Kd.Q_far (p := ⟨gb14026, 0, none⟩) (Kd.Q_types HO14006.out BK14026.out (by decide)) (fun _ hk => hk.2) (.int .i64 t14019)) (fun _ hk => hk.2) (.int .i64 t14020)) (fun _ hk => hk.2) (.int .i64 t14021)) (fun _ hk => hk.2) (.slice Ao23 t14022.length co23)) (fun _ h_ => h_.1))) hb); have n1_ := mk (Kd.N_below (by exact (Kd.N_mono (Kd.N_far (p := ⟨gb14026, 3, none⟩) (Kd.N_far (p := ⟨gb14026, 2, none⟩) (Kd.N_far (p := ⟨gb14026, 1, none⟩) (Kd.N_far (p := ⟨gb14026, 0, none⟩) (Kd.N_mono HO14009.out (fun k_ hk => (⟨hk, hk.2⟩ : _ ∧ k_ ≠ gb14026))) (fun _ hk => hk.2) (.int .i64 t14019)) (fun _ hk => hk.2) (.int .i64 t14020)) (fun _ hk => hk.2) (.int .i64 t14021)) (fun _ hk => hk.2) (.slice Ao23 t14022.length co23)) (fun _ h_ => h_.1))) hb); have n2_ := mk (Kd.R_below (by exact (Kd.R_mono (Kd.R_far (p := ⟨gb14026, 3, none⟩) (Kd.R_far (p := ⟨gb14026, 2, none⟩) (Kd.R_far (p := ⟨gb14026, 1, none⟩) (Kd.R_far (p := ⟨gb14026, 0, none⟩) (Kd.R_types HO14016.out BK14026.out (by decide)) (fun _ hk => hk.2) (.int .i64 t14019)) (fun _ hk => hk.2) (.int .i64 t14020)) (fun _ hk => hk.2) (.int .i64 t14021)) (fun _ hk => hk.2) (.slice Ao23 t14022.length co23)) (fun _ h_ => h_.1))) hb); have n3_ := mk (Kd.R_below (by exact (Kd.R_mono (Kd.R_far (p := ⟨gb14026, 3, none⟩) (Kd.R_far (p := ⟨gb14026, 2, none⟩) (Kd.R_far (p := ⟨gb14026, 1, none⟩) (Kd.R_far (p := ⟨gb14026, 0, none⟩) (Kd.R_types HO14024.out BK14026.out (by decide)) (fun _ hk => hk.2) (.int .i64 t14019)) (fun _ hk => hk.2) (.int .i64 t14020)) (fun _ hk => hk.2) (.int .i64 t14021)) (fun _ hk => hk.2) (.slice Ao23 t14022.length co23)) (fun _ h_ => h_.1))) hb); have n4_ := mk (blk_below (g := gb14010) (o := .cells #[.int .i64 t14001, .int .i64 t14002, .int .i64 t14003, .slice Ao10 t14004.length co10] 27 (0, 0)) (by refine blk_far ?_ NB14010_14026.out _; (with_reducible repeat (first | refine blk_drewN ?_ _ | refine blk_drew ?_ | refine blk_alloc ?_ _)); refine blk_far ?_ NB14010_14026.out _; (with_reducible repeat (first | refine blk_drewN ?_ _ | refine blk_drew ?_ | refine blk_alloc ?_ _)); refine blk_far ?_ NB14010_14026.out _; (with_reducible repeat (first | refine blk_drewN ?_ _ | refine blk_drew ?_ | refine blk_alloc ?_ _)); refine blk_far ?_ NB14010_14026.out _; (with_reducible repeat (first | refine blk_drewN ?_ _ | refine blk_drew ?_ | refine blk_alloc ?_ _)); exact BK14010.out) hb); have n5_ := mk (blk_below (g := gb14018) (o := .cells #[.int .i64 t14011, .int .i64 t14012, .int .i64 t14013, .slice Ao16 t14014.length co16] 27 (0, 0)) (by refine blk_far ?_ NB14018_14026.out _; (with_reducible repeat (first | refine blk_drewN ?_ _ | refine blk_drew ?_ | refine blk_alloc ?_ _)); refine blk_far ?_ NB14018_14026.out _; (with_reducible repeat (first | refine blk_drewN ?_ _ | refine blk_drew ?_ | refine blk_alloc ?_ _)); refine blk_far ?_ NB14018_14026.out _; (with_reducible repeat (first | refine blk_drewN ?_ _ | refine blk_drew ?_ | refine blk_alloc ?_ _)); refine blk_far ?_ NB14018_14026.out _; (with_reducible repeat (first | refine blk_drewN ?_ _ | refine blk_drew ?_ | refine blk_alloc ?_ _)); exact BK14018.out) hb); have n6_ := mk (blk_below (g := gb14026) (o := .cells #[.int .i64 t14019, .int .i64 t14020, .int .i64 t14021, .slice Ao23 t14022.length co23] 27 (0, 0)) (by refine blk_put (cs := #[.int .i64 t14019, .int .i64 t14020, .int .i64 t14021, .slice none 0 0]) ?_ 3 _ rfl; (with_reducible repeat (first | refine blk_drewN ?_ _ | refine blk_drew ?_ | refine blk_alloc ?_ _)); refine blk_put (cs := #[.int .i64 t14019, .int .i64 t14020, .int .i64 0, .slice none 0 0]) ?_ 2 _ rfl; (with_reducible repeat (first | refine blk_drewN ?_ _ | refine blk_drew ?_ | refine blk_alloc ?_ _)); refine blk_put (cs := #[.int .i64 t14019, .int .i64 0, .int .i64 0, .slice none 0 0]) ?_ 1 _ rfl; (with_reducible repeat (first | refine blk_drewN ?_ _ | refine blk_drew ?_ | refine blk_alloc ?_ _)); refine blk_put (cs := #[.int .i64 0, .int .i64 0, .int .i64 0, .slice none 0 0]) ?_ 0 _ rfl; (with_reducible repeat (first | refine blk_drewN ?_ _ | refine blk_drew ?_ | refine blk_alloc ?_ _)); exact BK14026.out) hb); have n7_ := mk (below_step (by repeat (with_reducible first | exact HB.out | refine below_set ?_ GE14026.out)) hb); clear HO14006; clear HO14009; clear HO14016; clear HO14024; clear BK14010; clear BK14018; clear BK14026; clear HB; have HO14006 := n0_; have HO14009 := n1_; have HO14016 := n2_; have HO14024 := n3_; have BK14010 := n4_; have BK14018 := n5_; have BK14026 := n6_; have HB := n7_; clear n0_ n1_ n2_ n3_ n4_ n5_ n6_ n7_; (try clear hb)))
     go_meet
     case rel => exact ⟨_, (true), (by rfl), H', ⟨by omega⟩, ⟨by (with_reducible repeat (first | apply Kd.N_alloc | apply Kd.N_drewN | apply Kd.N_drew)); exact Kd.N_mono HO14009.out (fun _ hk => ⟨hk.1.1.1.1.1, ⟨hk.1.1.1.2, ⟨hk.1.2, ⟨hk.1.1.1.1.2, ⟨hk.1.1.2, hk.2⟩⟩⟩⟩⟩)⟩, ⟨by (with_reducible repeat (first | apply Kd.Q_alloc | apply Kd.Q_drewN | apply Kd.Q_drew)); exact Kd.Q_mono HO14006.out (fun _ hk => by simp [hk])⟩, ⟨Kd.Q_of_R (by exact Kd.R_mono HO14016.out (fun _ hk => by simp [hk]))⟩, ⟨Kd.Q_of_R (by exact Kd.R_mono HO14024.out (fun _ hk => by simp [hk]))⟩, ⟨by (with_reducible repeat (first | refine blk_drewN ?_ _ | refine blk_drew ?_ | refine blk_alloc ?_ _)); exact BK14010.out⟩, ⟨by (with_reducible repeat (first | refine blk_drewN ?_ _ | refine blk_drew ?_ | refine blk_alloc ?_ _)); exact BK14018.out⟩, ⟨by (with_reducible repeat (first | refine blk_drewN ?_ _ | refine blk_drew ?_ | refine blk_alloc ?_ _)); exact BK14026.out⟩, ⟨by exact HB.out⟩⟩
    ·rw [if_neg c26] at H
     have c26b0 : (t14017 != t14025) = false := by simpa using c26
     (try (have c26b1 : decide (t14017 = t14025) = true := by simpa using c26))
     (try (have c26b2 : (t14017 == t14025) = true := by simpa using c26))
     clear c26
     (skip)
     have H' := mk H
     clear H
     have hnb33 := NB14018_14010.out
     have hnc33 := NB14010_14018.out
     have hnb34 := NB14018_14026.out
     have hnc34 := NB14026_14018.out
     have hcz35_0 : w19.cell? ⟨gb14018, 0, none⟩ = some (.int .i64 t14011) := (blk_cell BK14018.out 0).trans rfl
     have hcz35_1 : w19.cell? ⟨gb14018, 1, none⟩ = some (.int .i64 t14012) := (blk_cell BK14018.out 1).trans rfl
     have hcz35_2 : w19.cell? ⟨gb14018, 2, none⟩ = some (.int .i64 t14013) := (blk_cell BK14018.out 2).trans rfl
     have hcz35_3 : w19.cell? ⟨gb14018, 3, none⟩ = some (.slice Ao16 t14014.length co16) := (blk_cell BK14018.out 3).trans rfl
     have hfz35_0 := blk_frozen BK14018.out 0
     have hfz35_1 := blk_frozen BK14018.out 1
     have hfz35_2 := blk_frozen BK14018.out 2
     have hfz35_3 := blk_frozen BK14018.out 3
     have hnb36 := NB14026_14010.out
     have hnc36 := NB14010_14026.out
     have hcz37_0 : w19.cell? ⟨gb14026, 0, none⟩ = some (.int .i64 0) := (blk_cell BK14026.out 0).trans rfl
     have hcz37_1 : w19.cell? ⟨gb14026, 1, none⟩ = some (.int .i64 0) := (blk_cell BK14026.out 1).trans rfl
     have hcz37_2 : w19.cell? ⟨gb14026, 2, none⟩ = some (.int .i64 0) := (blk_cell BK14026.out 2).trans rfl
     have hcz37_3 : w19.cell? ⟨gb14026, 3, none⟩ = some (.slice none 0 0) := (blk_cell BK14026.out 3).trans rfl
     have hfz37_0 := blk_frozen BK14026.out 0
     have hfz37_1 := blk_frozen BK14026.out 1
     have hfz37_2 := blk_frozen BK14026.out 2
     have hfz37_3 := blk_frozen BK14026.out 3
     go_wp2_with (first | ((with_reducible refine gate_callee (f := 26) rfl ?_); refine goesL_ (some 35) rfl rfl Try.func26 (by kernel_rfl) rfl #[.agg #[.int .i64 t14011, .int .i64 t14012, .int .i64 t14013, .slice Ao16 t14014.length co16], .agg #[.int .i64 t14019, .int .i64 t14020, .int .i64 t14021, .slice Ao23 t14022.length co23]] rfl (by (try simp only [List.map_toArray, List.map_cons, List.map_nil]); rfl) ?_; (with_reducible refine (laws_equalImage.calls k t14011 t14012 t14013 _ _ t14014 t14019 t14020 t14021 _ _ t14022 true _ ?side1 ?side2 ?side3 ?side4 A24.out).mono ?_); (case side1 => refine (Kd.R_reads' (e := 3) (base := w.heap.size) (ok := fun k_ => ((True ∧ some k_ ≠ (.slice Ao10 t14004.length co10 : Value).ownBlock) ∧ some k_ ≠ (.slice Ao23 t14022.length co23 : Value).ownBlock)) (n := t14014.length) (c := co16) ?_).2.2; exact (by exact (Kd.R_mono (Kd.R_far (p := ⟨gb14026, 3, none⟩) (Kd.R_far (p := ⟨gb14026, 2, none⟩) (Kd.R_far (p := ⟨gb14026, 1, none⟩) (Kd.R_far (p := ⟨gb14026, 0, none⟩) (Kd.R_types HO14016.out BK14026.out (by decide)) (fun _ hk => hk.2) (.int .i64 t14019)) (fun _ hk => hk.2) (.int .i64 t14020)) (fun _ hk => hk.2) (.int .i64 t14021)) (fun _ hk => hk.2) (.slice Ao23 t14022.length co23)) (fun _ h_ => h_.1)))); (case side2 => exact (Kd.R_reads' HO14016.out).2.1); (case side3 => refine (Kd.R_reads' (e := 3) (base := w.heap.size) (ok := fun k_ => ((True ∧ some k_ ≠ (.slice Ao10 t14004.length co10 : Value).ownBlock) ∧ some k_ ≠ (.slice Ao16 t14014.length co16 : Value).ownBlock)) (n := t14022.length) (c := co23) ?_).2.2; exact (by exact (Kd.R_mono (Kd.R_far (p := ⟨gb14026, 3, none⟩) (Kd.R_far (p := ⟨gb14026, 2, none⟩) (Kd.R_far (p := ⟨gb14026, 1, none⟩) (Kd.R_far (p := ⟨gb14026, 0, none⟩) (Kd.R_types HO14024.out BK14026.out (by decide)) (fun _ hk => hk.2) (.int .i64 t14019)) (fun _ hk => hk.2) (.int .i64 t14020)) (fun _ hk => hk.2) (.int .i64 t14021)) (fun _ hk => hk.2) (.slice Ao23 t14022.length co23)) (fun _ h_ => h_.1)))); (case side4 => exact (Kd.R_reads' HO14024.out).2.1); rintro e w38 ⟨rfl, hb⟩; refine ⟨_, rfl, ?_⟩; have n0_ := mk (Kd.Q_below (by exact (Kd.Q_mono (Kd.Q_far (p := ⟨gb14026, 3, none⟩) (Kd.Q_far (p := ⟨gb14026, 2, none⟩) (Kd.Q_far (p := ⟨gb14026, 1, none⟩) (Kd.Q_far (p := ⟨gb14026, 0, none⟩) (Kd.Q_types HO14006.out BK14026.out (by decide)) (fun _ hk => hk.2) (.int .i64 t14019)) (fun _ hk => hk.2) (.int .i64 t14020)) (fun _ hk => hk.2) (.int .i64 t14021)) (fun _ hk => hk.2) (.slice Ao23 t14022.length co23)) (fun _ h_ => h_.1))) hb); have n1_ := mk (Kd.N_below (by exact (Kd.N_mono (Kd.N_far (p := ⟨gb14026, 3, none⟩) (Kd.N_far (p := ⟨gb14026, 2, none⟩) (Kd.N_far (p := ⟨gb14026, 1, none⟩) (Kd.N_far (p := ⟨gb14026, 0, none⟩) (Kd.N_mono HO14009.out (fun k_ hk => (⟨hk, hk.2⟩ : _ ∧ k_ ≠ gb14026))) (fun _ hk => hk.2) (.int .i64 t14019)) (fun _ hk => hk.2) (.int .i64 t14020)) (fun _ hk => hk.2) (.int .i64 t14021)) (fun _ hk => hk.2) (.slice Ao23 t14022.length co23)) (fun _ h_ => h_.1))) hb); have n2_ := mk (Kd.R_below (by exact (Kd.R_mono (Kd.R_far (p := ⟨gb14026, 3, none⟩) (Kd.R_far (p := ⟨gb14026, 2, none⟩) (Kd.R_far (p := ⟨gb14026, 1, none⟩) (Kd.R_far (p := ⟨gb14026, 0, none⟩) (Kd.R_types HO14016.out BK14026.out (by decide)) (fun _ hk => hk.2) (.int .i64 t14019)) (fun _ hk => hk.2) (.int .i64 t14020)) (fun _ hk => hk.2) (.int .i64 t14021)) (fun _ hk => hk.2) (.slice Ao23 t14022.length co23)) (fun _ h_ => h_.1))) hb); have n3_ := mk (Kd.R_below (by exact (Kd.R_mono (Kd.R_far (p := ⟨gb14026, 3, none⟩) (Kd.R_far (p := ⟨gb14026, 2, none⟩) (Kd.R_far (p := ⟨gb14026, 1, none⟩) (Kd.R_far (p := ⟨gb14026, 0, none⟩) (Kd.R_types HO14024.out BK14026.out (by decide)) (fun _ hk => hk.2) (.int .i64 t14019)) (fun _ hk => hk.2) (.int .i64 t14020)) (fun _ hk => hk.2) (.int .i64 t14021)) (fun _ hk => hk.2) (.slice Ao23 t14022.length co23)) (fun _ h_ => h_.1))) hb); have n4_ := mk (blk_below (g := gb14010) (o := .cells #[.int .i64 t14001, .int .i64 t14002, .int .i64 t14003, .slice Ao10 t14004.length co10] 27 (0, 0)) (by refine blk_far ?_ NB14010_14026.out _; (with_reducible repeat (first | refine blk_drewN ?_ _ | refine blk_drew ?_ | refine blk_alloc ?_ _)); refine blk_far ?_ NB14010_14026.out _; (with_reducible repeat (first | refine blk_drewN ?_ _ | refine blk_drew ?_ | refine blk_alloc ?_ _)); refine blk_far ?_ NB14010_14026.out _; (with_reducible repeat (first | refine blk_drewN ?_ _ | refine blk_drew ?_ | refine blk_alloc ?_ _)); refine blk_far ?_ NB14010_14026.out _; (with_reducible repeat (first | refine blk_drewN ?_ _ | refine blk_drew ?_ | refine blk_alloc ?_ _)); exact BK14010.out) hb); have n5_ := mk (blk_below (g := gb14018) (o := .cells #[.int .i64 t14011, .int .i64 t14012, .int .i64 t14013, .slice Ao16 t14014.length co16] 27 (0, 0)) (by refine blk_far ?_ NB14018_14026.out _; (with_reducible repeat (first | refine blk_drewN ?_ _ | refine blk_drew ?_ | refine blk_alloc ?_ _)); refine blk_far ?_ NB14018_14026.out _; (with_reducible repeat (first | refine blk_drewN ?_ _ | refine blk_drew ?_ | refine blk_alloc ?_ _)); refine blk_far ?_ NB14018_14026.out _; (with_reducible repeat (first | refine blk_drewN ?_ _ | refine blk_drew ?_ | refine blk_alloc ?_ _)); refine blk_far ?_ NB14018_14026.out _; (with_reducible repeat (first | refine blk_drewN ?_ _ | refine blk_drew ?_ | refine blk_alloc ?_ _)); exact BK14018.out) hb); have n6_ := mk (blk_below (g := gb14026) (o := .cells #[.int .i64 t14019, .int .i64 t14020, .int .i64 t14021, .slice Ao23 t14022.length co23] 27 (0, 0)) (by refine blk_put (cs := #[.int .i64 t14019, .int .i64 t14020, .int .i64 t14021, .slice none 0 0]) ?_ 3 _ rfl; (with_reducible repeat (first | refine blk_drewN ?_ _ | refine blk_drew ?_ | refine blk_alloc ?_ _)); refine blk_put (cs := #[.int .i64 t14019, .int .i64 t14020, .int .i64 0, .slice none 0 0]) ?_ 2 _ rfl; (with_reducible repeat (first | refine blk_drewN ?_ _ | refine blk_drew ?_ | refine blk_alloc ?_ _)); refine blk_put (cs := #[.int .i64 t14019, .int .i64 0, .int .i64 0, .slice none 0 0]) ?_ 1 _ rfl; (with_reducible repeat (first | refine blk_drewN ?_ _ | refine blk_drew ?_ | refine blk_alloc ?_ _)); refine blk_put (cs := #[.int .i64 0, .int .i64 0, .int .i64 0, .slice none 0 0]) ?_ 0 _ rfl; (with_reducible repeat (first | refine blk_drewN ?_ _ | refine blk_drew ?_ | refine blk_alloc ?_ _)); exact BK14026.out) hb); have n7_ := mk (below_step (by repeat (with_reducible first | exact HB.out | refine below_set ?_ GE14026.out)) hb); clear HO14006; clear HO14009; clear HO14016; clear HO14024; clear BK14010; clear BK14018; clear BK14026; clear HB; have HO14006 := n0_; have HO14009 := n1_; have HO14016 := n2_; have HO14024 := n3_; have BK14010 := n4_; have BK14018 := n5_; have BK14026 := n6_; have HB := n7_; clear n0_ n1_ n2_ n3_ n4_ n5_ n6_ n7_; (try clear hb)))
     go_meet
     case rel => exact ⟨_, (!t14017), (by rfl), H', ⟨by omega⟩, ⟨by (with_reducible repeat (first | apply Kd.N_alloc | apply Kd.N_drewN | apply Kd.N_drew)); exact Kd.N_mono HO14009.out (fun _ hk => ⟨hk.1.1.1.1.1, ⟨hk.1.1.1.2, ⟨hk.1.2, ⟨hk.1.1.1.1.2, ⟨hk.1.1.2, hk.2⟩⟩⟩⟩⟩)⟩, ⟨by (with_reducible repeat (first | apply Kd.Q_alloc | apply Kd.Q_drewN | apply Kd.Q_drew)); exact Kd.Q_mono HO14006.out (fun _ hk => by simp [hk])⟩, ⟨Kd.Q_of_R (by exact Kd.R_mono HO14016.out (fun _ hk => by simp [hk]))⟩, ⟨Kd.Q_of_R (by exact Kd.R_mono HO14024.out (fun _ hk => by simp [hk]))⟩, ⟨by (with_reducible repeat (first | refine blk_drewN ?_ _ | refine blk_drew ?_ | refine blk_alloc ?_ _)); exact BK14010.out⟩, ⟨by (with_reducible repeat (first | refine blk_drewN ?_ _ | refine blk_drew ?_ | refine blk_alloc ?_ _)); exact BK14018.out⟩, ⟨by (with_reducible repeat (first | refine blk_drewN ?_ _ | refine blk_drew ?_ | refine blk_alloc ?_ _)); exact BK14026.out⟩, ⟨by exact HB.out⟩⟩
   ·replace c25 := Bool.eq_false_iff.mpr c25
    subst c25
    have H1 : (laws_FnFlattenLayers.j0 k t14007 t14017 t14025 true t14001 t14002 t14003 t14004 t14011 t14012 t14013 t14014 t14019 t14020 t14021 t14022) = some r := by rw [if_neg (show ¬ (false = true) by decide)] at H; exact H
    clear H
    have H := H1
    clear H1
    have H' := mk H
    clear H
    have hnb39 := NB14018_14010.out
    have hnc39 := NB14010_14018.out
    have hnb40 := NB14018_14026.out
    have hnc40 := NB14026_14018.out
    have hcz41_0 : w19.cell? ⟨gb14018, 0, none⟩ = some (.int .i64 t14011) := (blk_cell BK14018.out 0).trans rfl
    have hcz41_1 : w19.cell? ⟨gb14018, 1, none⟩ = some (.int .i64 t14012) := (blk_cell BK14018.out 1).trans rfl
    have hcz41_2 : w19.cell? ⟨gb14018, 2, none⟩ = some (.int .i64 t14013) := (blk_cell BK14018.out 2).trans rfl
    have hcz41_3 : w19.cell? ⟨gb14018, 3, none⟩ = some (.slice Ao16 t14014.length co16) := (blk_cell BK14018.out 3).trans rfl
    have hfz41_0 := blk_frozen BK14018.out 0
    have hfz41_1 := blk_frozen BK14018.out 1
    have hfz41_2 := blk_frozen BK14018.out 2
    have hfz41_3 := blk_frozen BK14018.out 3
    have hnb42 := NB14026_14010.out
    have hnc42 := NB14010_14026.out
    have hcz43_0 : w19.cell? ⟨gb14026, 0, none⟩ = some (.int .i64 0) := (blk_cell BK14026.out 0).trans rfl
    have hcz43_1 : w19.cell? ⟨gb14026, 1, none⟩ = some (.int .i64 0) := (blk_cell BK14026.out 1).trans rfl
    have hcz43_2 : w19.cell? ⟨gb14026, 2, none⟩ = some (.int .i64 0) := (blk_cell BK14026.out 2).trans rfl
    have hcz43_3 : w19.cell? ⟨gb14026, 3, none⟩ = some (.slice none 0 0) := (blk_cell BK14026.out 3).trans rfl
    have hfz43_0 := blk_frozen BK14026.out 0
    have hfz43_1 := blk_frozen BK14026.out 1
    have hfz43_2 := blk_frozen BK14026.out 2
    have hfz43_3 := blk_frozen BK14026.out 3
    go_wp2_with (first | ((with_reducible refine gate_callee (f := 26) rfl ?_); refine goesL_ (some 35) rfl rfl Try.func26 (by kernel_rfl) rfl #[.agg #[.int .i64 t14011, .int .i64 t14012, .int .i64 t14013, .slice Ao16 t14014.length co16], .agg #[.int .i64 t14019, .int .i64 t14020, .int .i64 t14021, .slice Ao23 t14022.length co23]] rfl (by (try simp only [List.map_toArray, List.map_cons, List.map_nil]); rfl) ?_; (with_reducible refine (laws_equalImage.calls k t14011 t14012 t14013 _ _ t14014 t14019 t14020 t14021 _ _ t14022 false _ ?side1 ?side2 ?side3 ?side4 A24.out).mono ?_); (case side1 => refine (Kd.R_reads' (e := 3) (base := w.heap.size) (ok := fun k_ => ((True ∧ some k_ ≠ (.slice Ao10 t14004.length co10 : Value).ownBlock) ∧ some k_ ≠ (.slice Ao23 t14022.length co23 : Value).ownBlock)) (n := t14014.length) (c := co16) ?_).2.2; exact (by exact (Kd.R_mono (Kd.R_far (p := ⟨gb14026, 3, none⟩) (Kd.R_far (p := ⟨gb14026, 2, none⟩) (Kd.R_far (p := ⟨gb14026, 1, none⟩) (Kd.R_far (p := ⟨gb14026, 0, none⟩) (Kd.R_types HO14016.out BK14026.out (by decide)) (fun _ hk => hk.2) (.int .i64 t14019)) (fun _ hk => hk.2) (.int .i64 t14020)) (fun _ hk => hk.2) (.int .i64 t14021)) (fun _ hk => hk.2) (.slice Ao23 t14022.length co23)) (fun _ h_ => h_.1)))); (case side2 => exact (Kd.R_reads' HO14016.out).2.1); (case side3 => refine (Kd.R_reads' (e := 3) (base := w.heap.size) (ok := fun k_ => ((True ∧ some k_ ≠ (.slice Ao10 t14004.length co10 : Value).ownBlock) ∧ some k_ ≠ (.slice Ao16 t14014.length co16 : Value).ownBlock)) (n := t14022.length) (c := co23) ?_).2.2; exact (by exact (Kd.R_mono (Kd.R_far (p := ⟨gb14026, 3, none⟩) (Kd.R_far (p := ⟨gb14026, 2, none⟩) (Kd.R_far (p := ⟨gb14026, 1, none⟩) (Kd.R_far (p := ⟨gb14026, 0, none⟩) (Kd.R_types HO14024.out BK14026.out (by decide)) (fun _ hk => hk.2) (.int .i64 t14019)) (fun _ hk => hk.2) (.int .i64 t14020)) (fun _ hk => hk.2) (.int .i64 t14021)) (fun _ hk => hk.2) (.slice Ao23 t14022.length co23)) (fun _ h_ => h_.1)))); (case side4 => exact (Kd.R_reads' HO14024.out).2.1); rintro e w44 ⟨rfl, hb⟩; refine ⟨_, rfl, ?_⟩; have n0_ := mk (Kd.Q_below (by exact (Kd.Q_mono (Kd.Q_far (p := ⟨gb14026, 3, none⟩) (Kd.Q_far (p := ⟨gb14026, 2, none⟩) (Kd.Q_far (p := ⟨gb14026, 1, none⟩) (Kd.Q_far (p := ⟨gb14026, 0, none⟩) (Kd.Q_types HO14006.out BK14026.out (by decide)) (fun _ hk => hk.2) (.int .i64 t14019)) (fun _ hk => hk.2) (.int .i64 t14020)) (fun _ hk => hk.2) (.int .i64 t14021)) (fun _ hk => hk.2) (.slice Ao23 t14022.length co23)) (fun _ h_ => h_.1))) hb); have n1_ := mk (Kd.N_below (by exact (Kd.N_mono (Kd.N_far (p := ⟨gb14026, 3, none⟩) (Kd.N_far (p := ⟨gb14026, 2, none⟩) (Kd.N_far (p := ⟨gb14026, 1, none⟩) (Kd.N_far (p := ⟨gb14026, 0, none⟩) (Kd.N_mono HO14009.out (fun k_ hk => (⟨hk, hk.2⟩ : _ ∧ k_ ≠ gb14026))) (fun _ hk => hk.2) (.int .i64 t14019)) (fun _ hk => hk.2) (.int .i64 t14020)) (fun _ hk => hk.2) (.int .i64 t14021)) (fun _ hk => hk.2) (.slice Ao23 t14022.length co23)) (fun _ h_ => h_.1))) hb); have n2_ := mk (Kd.R_below (by exact (Kd.R_mono (Kd.R_far (p := ⟨gb14026, 3, none⟩) (Kd.R_far (p := ⟨gb14026, 2, none⟩) (Kd.R_far (p := ⟨gb14026, 1, none⟩) (Kd.R_far (p := ⟨gb14026, 0, none⟩) (Kd.R_types HO14016.out BK14026.out (by decide)) (fun _ hk => hk.2) (.int .i64 t14019)) (fun _ hk => hk.2) (.int .i64 t14020)) (fun _ hk => hk.2) (.int .i64 t14021)) (fun _ hk => hk.2) (.slice Ao23 t14022.length co23)) (fun _ h_ => h_.1))) hb); have n3_ := mk (Kd.R_below (by exact (Kd.R_mono (Kd.R_far (p := ⟨gb14026, 3, none⟩) (Kd.R_far (p := ⟨gb14026, 2, none⟩) (Kd.R_far (p := ⟨gb14026, 1, none⟩) (Kd.R_far (p := ⟨gb14026, 0, none⟩) (Kd.R_types HO14024.out BK14026.out (by decide)) (fun _ hk => hk.2) (.int .i64 t14019)) (fun _ hk => hk.2) (.int .i64 t14020)) (fun _ hk => hk.2) (.int .i64 t14021)) (fun _ hk => hk.2) (.slice Ao23 t14022.length co23)) (fun _ h_ => h_.1))) hb); have n4_ := mk (blk_below (g := gb14010) (o := .cells #[.int .i64 t14001, .int .i64 t14002, .int .i64 t14003, .slice Ao10 t14004.length co10] 27 (0, 0)) (by refine blk_far ?_ NB14010_14026.out _; (with_reducible repeat (first | refine blk_drewN ?_ _ | refine blk_drew ?_ | refine blk_alloc ?_ _)); refine blk_far ?_ NB14010_14026.out _; (with_reducible repeat (first | refine blk_drewN ?_ _ | refine blk_drew ?_ | refine blk_alloc ?_ _)); refine blk_far ?_ NB14010_14026.out _; (with_reducible repeat (first | refine blk_drewN ?_ _ | refine blk_drew ?_ | refine blk_alloc ?_ _)); refine blk_far ?_ NB14010_14026.out _; (with_reducible repeat (first | refine blk_drewN ?_ _ | refine blk_drew ?_ | refine blk_alloc ?_ _)); exact BK14010.out) hb); have n5_ := mk (blk_below (g := gb14018) (o := .cells #[.int .i64 t14011, .int .i64 t14012, .int .i64 t14013, .slice Ao16 t14014.length co16] 27 (0, 0)) (by refine blk_far ?_ NB14018_14026.out _; (with_reducible repeat (first | refine blk_drewN ?_ _ | refine blk_drew ?_ | refine blk_alloc ?_ _)); refine blk_far ?_ NB14018_14026.out _; (with_reducible repeat (first | refine blk_drewN ?_ _ | refine blk_drew ?_ | refine blk_alloc ?_ _)); refine blk_far ?_ NB14018_14026.out _; (with_reducible repeat (first | refine blk_drewN ?_ _ | refine blk_drew ?_ | refine blk_alloc ?_ _)); refine blk_far ?_ NB14018_14026.out _; (with_reducible repeat (first | refine blk_drewN ?_ _ | refine blk_drew ?_ | refine blk_alloc ?_ _)); exact BK14018.out) hb); have n6_ := mk (blk_below (g := gb14026) (o := .cells #[.int .i64 t14019, .int .i64 t14020, .int .i64 t14021, .slice Ao23 t14022.length co23] 27 (0, 0)) (by refine blk_put (cs := #[.int .i64 t14019, .int .i64 t14020, .int .i64 t14021, .slice none 0 0]) ?_ 3 _ rfl; (with_reducible repeat (first | refine blk_drewN ?_ _ | refine blk_drew ?_ | refine blk_alloc ?_ _)); refine blk_put (cs := #[.int .i64 t14019, .int .i64 t14020, .int .i64 0, .slice none 0 0]) ?_ 2 _ rfl; (with_reducible repeat (first | refine blk_drewN ?_ _ | refine blk_drew ?_ | refine blk_alloc ?_ _)); refine blk_put (cs := #[.int .i64 t14019, .int .i64 0, .int .i64 0, .slice none 0 0]) ?_ 1 _ rfl; (with_reducible repeat (first | refine blk_drewN ?_ _ | refine blk_drew ?_ | refine blk_alloc ?_ _)); refine blk_put (cs := #[.int .i64 0, .int .i64 0, .int .i64 0, .slice none 0 0]) ?_ 0 _ rfl; (with_reducible repeat (first | refine blk_drewN ?_ _ | refine blk_drew ?_ | refine blk_alloc ?_ _)); exact BK14026.out) hb); have n7_ := mk (below_step (by repeat (with_reducible first | exact HB.out | refine below_set ?_ GE14026.out)) hb); clear HO14006; clear HO14009; clear HO14016; clear HO14024; clear BK14010; clear BK14018; clear BK14026; clear HB; have HO14006 := n0_; have HO14009 := n1_; have HO14016 := n2_; have HO14024 := n3_; have BK14010 := n4_; have BK14018 := n5_; have BK14026 := n6_; have HB := n7_; clear n0_ n1_ n2_ n3_ n4_ n5_ n6_ n7_; (try clear hb)))
    go_meet
    case rel => exact ⟨_, (true), (by rfl), H', ⟨by omega⟩, ⟨by (with_reducible repeat (first | apply Kd.N_alloc | apply Kd.N_drewN | apply Kd.N_drew)); exact Kd.N_mono HO14009.out (fun _ hk => ⟨hk.1.1.1.1.1, ⟨hk.1.1.1.2, ⟨hk.1.2, ⟨hk.1.1.1.1.2, ⟨hk.1.1.2, hk.2⟩⟩⟩⟩⟩)⟩, ⟨by (with_reducible repeat (first | apply Kd.Q_alloc | apply Kd.Q_drewN | apply Kd.Q_drew)); exact Kd.Q_mono HO14006.out (fun _ hk => by simp [hk])⟩, ⟨Kd.Q_of_R (by exact Kd.R_mono HO14016.out (fun _ hk => by simp [hk]))⟩, ⟨Kd.Q_of_R (by exact Kd.R_mono HO14024.out (fun _ hk => by simp [hk]))⟩, ⟨by (with_reducible repeat (first | refine blk_drewN ?_ _ | refine blk_drew ?_ | refine blk_alloc ?_ _)); exact BK14010.out⟩, ⟨by (with_reducible repeat (first | refine blk_drewN ?_ _ | refine blk_drew ?_ | refine blk_alloc ?_ _)); exact BK14018.out⟩, ⟨by (with_reducible repeat (first | refine blk_drewN ?_ _ | refine blk_drew ?_ | refine blk_alloc ?_ _)); exact BK14026.out⟩, ⟨by exact HB.out⟩⟩
  case rest =>
   clear HC6
   try clear c1
   try clear c2
   try clear c2b0
   try clear c2b1
   try clear p2
   try clear c3
   try clear c4
   try clear c6
   try clear c7
   try clear c13
   try clear c14
   try clear c20
   try clear c21
   try clear c25
   try clear c26
   try clear c26b0
   try clear c26b1
   try clear c26b2
   try clear c27
   try clear c28
   try clear c30
   try clear c33
   try clear c34
   try clear c36
   try clear c39
   try clear c40
   try clear c42
   try clear hcz15_0
   try clear hcz15_1
   try clear hcz15_2
   try clear hcz15_3
   try clear hcz17_0
   try clear hcz17_1
   try clear hcz17_2
   try clear hcz17_3
   try clear hcz22_0
   try clear hcz22_1
   try clear hcz22_2
   try clear hcz22_3
   try clear hcz29_0
   try clear hcz29_1
   try clear hcz29_2
   try clear hcz29_3
   try clear hcz31_0
   try clear hcz31_1
   try clear hcz31_2
   try clear hcz31_3
   try clear hcz35_0
   try clear hcz35_1
   try clear hcz35_2
   try clear hcz35_3
   try clear hcz37_0
   try clear hcz37_1
   try clear hcz37_2
   try clear hcz37_3
   try clear hcz41_0
   try clear hcz41_1
   try clear hcz41_2
   try clear hcz41_3
   try clear hcz43_0
   try clear hcz43_1
   try clear hcz43_2
   try clear hcz43_3
   try clear hcz9_0
   try clear hcz9_1
   try clear hcz9_2
   try clear hcz9_3
   try clear hfz15_0
   try clear hfz15_1
   try clear hfz15_2
   try clear hfz15_3
   try clear hfz17_0
   try clear hfz17_1
   try clear hfz17_2
   try clear hfz17_3
   try clear hfz22_0
   try clear hfz22_1
   try clear hfz22_2
   try clear hfz22_3
   try clear hfz29_0
   try clear hfz29_1
   try clear hfz29_2
   try clear hfz29_3
   try clear hfz31_0
   try clear hfz31_1
   try clear hfz31_2
   try clear hfz31_3
   try clear hfz35_0
   try clear hfz35_1
   try clear hfz35_2
   try clear hfz35_3
   try clear hfz37_0
   try clear hfz37_1
   try clear hfz37_2
   try clear hfz37_3
   try clear hfz41_0
   try clear hfz41_1
   try clear hfz41_2
   try clear hfz41_3
   try clear hfz43_0
   try clear hfz43_1
   try clear hfz43_2
   try clear hfz43_3
   try clear hfz9_0
   try clear hfz9_1
   try clear hfz9_2
   try clear hfz9_3
   obtain ⟨kq, x45_5, rfl, HA, HJ5, HO_4, HO_14011003, HO_14019003, HO_14027003, BK14010, BK14018, BK14026, HB⟩ := hcut
   cases kq with
   | zero => exact absurd HA.out (by simp [laws_FnFlattenLayers.j0])
   | succ kj5 =>
    have H := HA.out
    clear HA
    simp only [laws_FnFlattenLayers.j0] at H
    by_cases c45 : x45_5 = true
    ·subst c45
     have H1 : ((laws_equalImage.f kj5 t14011 t14012 t14013 t14014 t14019 t14020 t14021 t14022).bind fun t14028 => (if t14028 = true then (some (t14017 == t14025)) else (some false))) = some r := by rw [if_pos rfl] at H; exact H
     clear H
     have H := H1
     clear H1
     replace H := Option.bind_eq_some_iff.mp H
     obtain ⟨t14028, A460, H⟩ := H
     replace H : (if t14028 = true then (some (t14017 == t14025)) else (some false)) = some r := H
     have A46 := mk A460
     clear A460
     by_cases c47 : t14028 = true
     ·subst c47
      have H1 : (some (t14017 == t14025)) = some r := by rw [if_pos rfl] at H; exact H
      clear H
      have H := H1
      clear H1
      obtain rfl := Option.some.inj H
      have hnb48 := NB14018_14010.out
      have hnc48 := NB14010_14018.out
      have hnb49 := NB14018_14026.out
      have hnc49 := NB14026_14018.out
      have hcz50_0 : wc.cell? ⟨gb14018, 0, none⟩ = some (.int .i64 t14011) := (blk_cell BK14018.out 0).trans rfl
      have hcz50_1 : wc.cell? ⟨gb14018, 1, none⟩ = some (.int .i64 t14012) := (blk_cell BK14018.out 1).trans rfl
      have hcz50_2 : wc.cell? ⟨gb14018, 2, none⟩ = some (.int .i64 t14013) := (blk_cell BK14018.out 2).trans rfl
      have hcz50_3 : wc.cell? ⟨gb14018, 3, none⟩ = some (.slice Ao16 t14014.length co16) := (blk_cell BK14018.out 3).trans rfl
      have hfz50_0 := blk_frozen BK14018.out 0
      have hfz50_1 := blk_frozen BK14018.out 1
      have hfz50_2 := blk_frozen BK14018.out 2
      have hfz50_3 := blk_frozen BK14018.out 3
      have hnb51 := NB14026_14010.out
      have hnc51 := NB14010_14026.out
      have hcz52_0 : wc.cell? ⟨gb14026, 0, none⟩ = some (.int .i64 t14019) := (blk_cell BK14026.out 0).trans rfl
      have hcz52_1 : wc.cell? ⟨gb14026, 1, none⟩ = some (.int .i64 t14020) := (blk_cell BK14026.out 1).trans rfl
      have hcz52_2 : wc.cell? ⟨gb14026, 2, none⟩ = some (.int .i64 t14021) := (blk_cell BK14026.out 2).trans rfl
      have hcz52_3 : wc.cell? ⟨gb14026, 3, none⟩ = some (.slice Ao23 t14022.length co23) := (blk_cell BK14026.out 3).trans rfl
      have hfz52_0 := blk_frozen BK14026.out 0
      have hfz52_1 := blk_frozen BK14026.out 1
      have hfz52_2 := blk_frozen BK14026.out 2
      have hfz52_3 := blk_frozen BK14026.out 3
      go_wp2_with (first | ((with_reducible refine gate_callee (f := 26) rfl ?_); refine goesL_ (some 48) rfl rfl Try.func26 (by kernel_rfl) rfl #[.agg #[.int .i64 t14011, .int .i64 t14012, .int .i64 t14013, .slice Ao16 t14014.length co16], .agg #[.int .i64 t14019, .int .i64 t14020, .int .i64 t14021, .slice Ao23 t14022.length co23]] rfl (by (try simp only [List.map_toArray, List.map_cons, List.map_nil]); rfl) ?_; (with_reducible refine (laws_equalImage.calls kj5 t14011 t14012 t14013 _ _ t14014 t14019 t14020 t14021 _ _ t14022 true _ ?side1 ?side2 ?side3 ?side4 A46.out).mono ?_); (case side1 => repeat (exact (Kd.Q_reads' HO_14019003.out).2.2)); (case side2 => exact (Kd.Q_reads' HO_14019003.out).2.1); (case side3 => repeat (exact (Kd.Q_reads' HO_14027003.out).2.2)); (case side4 => exact (Kd.Q_reads' HO_14027003.out).2.1); rintro e w53 ⟨rfl, hb⟩; refine ⟨_, rfl, ?_⟩; have n0_ := mk (Kd.N_below HO_4.out hb); have n1_ := mk (Kd.Q_below HO_14011003.out hb); have n2_ := mk (Kd.Q_below HO_14019003.out hb); have n3_ := mk (Kd.Q_below HO_14027003.out hb); have n4_ := mk (blk_below BK14010.out hb); have n5_ := mk (blk_below BK14018.out hb); have n6_ := mk (blk_below BK14026.out hb); have n7_ := mk (below_step HB.out hb); clear HO_4; clear HO_14011003; clear HO_14019003; clear HO_14027003; clear BK14010; clear BK14018; clear BK14026; clear HB; have HO_4 := n0_; have HO_14011003 := n1_; have HO_14019003 := n2_; have HO_14027003 := n3_; have BK14010 := n4_; have BK14018 := n5_; have BK14026 := n6_; have HB := n7_; clear n0_ n1_ n2_ n3_ n4_ n5_ n6_ n7_; (try clear hb)))
      go_ret
      exact ⟨by rfl, by exact HB.out⟩
     ·replace c47 := Bool.eq_false_iff.mpr c47
      subst c47
      have H1 : (some false) = some r := by rw [if_neg (show ¬ (false = true) by decide)] at H; exact H
      clear H
      have H := H1
      clear H1
      exact absurd ((Option.some.inj H).trans HRT.out) (by decide)
    ·replace c45 := Bool.eq_false_iff.mpr c45
     subst c45
     have H1 : (laws_FnFlattenLayers.l0 kj5 t14007 0 t14011 t14012 t14013 t14014 t14001 t14002 t14003 t14004) = some r := by rw [if_neg (show ¬ (false = true) by decide)] at H; exact H
     clear H
     have H := H1
     clear H1
     have H' := mk H
     clear H
     have hnb60 := NB14010_14018.out
     have hnc60 := NB14018_14010.out
     have hnb61 := NB14010_14026.out
     have hnc61 := NB14026_14010.out
     have hcz62_0 : wc.cell? ⟨gb14010, 0, none⟩ = some (.int .i64 t14001) := (blk_cell BK14010.out 0).trans rfl
     have hcz62_1 : wc.cell? ⟨gb14010, 1, none⟩ = some (.int .i64 t14002) := (blk_cell BK14010.out 1).trans rfl
     have hcz62_2 : wc.cell? ⟨gb14010, 2, none⟩ = some (.int .i64 t14003) := (blk_cell BK14010.out 2).trans rfl
     have hcz62_3 : wc.cell? ⟨gb14010, 3, none⟩ = some (.slice Ao10 t14004.length co10) := (blk_cell BK14010.out 3).trans rfl
     have hfz62_0 := blk_frozen BK14010.out 0
     have hfz62_1 := blk_frozen BK14010.out 1
     have hfz62_2 := blk_frozen BK14010.out 2
     have hfz62_3 := blk_frozen BK14010.out 3
     go_wp2_with (first | ((with_reducible refine gate_dst (N := 9) rfl ?_); refine box_event ?hg (N := 9) ?hd (cs := #[.int .i64 0, .int .i64 0, .int .i64 0, .slice none 0 0]) (t := 27) ?hr ?_; (case hd => rfl); (case hg => rfl); (case hr => (go_simp; done)); intro gb14029 hg w63 hbox hb; have n0_ := mk (Kd.N_below (Kd.N_elderB HO_4.out gb14029 (Nat.le_of_eq hg.symm)) hb); have n1_ := mk (Kd.Q_below HO_14011003.out hb); have n2_ := mk (Kd.Q_below HO_14019003.out hb); have n3_ := mk (Kd.Q_below HO_14027003.out hb); have n4_ := mk (blk_below BK14010.out hb); have n5_ := mk (blk_below BK14018.out hb); have n6_ := mk (blk_below BK14026.out hb); have n7_ := mk (below_step HB.out hb); have n8_ := mk (hbox); have n9_ := mk ((by rw [hg]; exact (below_size HB.out) : w.heap.size ≤ gb14029)); have n10_ := mk ((by rw [hg]; exact (below_size HB.out) : w.heap.size ≤ gb14029)); have n11_ := mk ((by rw [hg]; exact Nat.ne_of_lt (blk_lt BK14010.out) : gb14010 ≠ gb14029)); have n12_ := mk ((by rw [hg]; exact Nat.ne_of_gt (blk_lt BK14010.out) : gb14029 ≠ gb14010)); have n13_ := mk ((by rw [hg]; exact Nat.ne_of_lt (blk_lt BK14018.out) : gb14018 ≠ gb14029)); have n14_ := mk ((by rw [hg]; exact Nat.ne_of_gt (blk_lt BK14018.out) : gb14029 ≠ gb14018)); have n15_ := mk ((by rw [hg]; exact Nat.ne_of_lt (blk_lt BK14026.out) : gb14026 ≠ gb14029)); have n16_ := mk ((by rw [hg]; exact Nat.ne_of_gt (blk_lt BK14026.out) : gb14029 ≠ gb14026)); clear HO_4; clear HO_14011003; clear HO_14019003; clear HO_14027003; clear BK14010; clear BK14018; clear BK14026; clear HB; have HO_4 := n0_; have HO_14011003 := n1_; have HO_14019003 := n2_; have HO_14027003 := n3_; have BK14010 := n4_; have BK14018 := n5_; have BK14026 := n6_; have HB := n7_; have BK14029 := n8_; have GW14029 := n9_; have GE14029 := n10_; have NB14010_14029 := n11_; have NB14029_14010 := n12_; have NB14018_14029 := n13_; have NB14029_14018 := n14_; have NB14026_14029 := n15_; have NB14029_14026 := n16_; clear n0_ n1_ n2_ n3_ n4_ n5_ n6_ n7_ n8_ n9_ n10_ n11_ n12_ n13_ n14_ n15_ n16_; clear hb hbox hg; have hnb64 := NB14029_14010.out; have hnc64 := NB14010_14029.out; have hnb65 := NB14029_14018.out; have hnc65 := NB14018_14029.out; have hnb66 := NB14029_14026.out; have hnc66 := NB14026_14029.out; have hcz67_0 : w63.cell? ⟨gb14029, 0, none⟩ = some (.int .i64 0) := (blk_cell BK14029.out 0).trans rfl; have hcz67_1 : w63.cell? ⟨gb14029, 1, none⟩ = some (.int .i64 0) := (blk_cell BK14029.out 1).trans rfl; have hcz67_2 : w63.cell? ⟨gb14029, 2, none⟩ = some (.int .i64 0) := (blk_cell BK14029.out 2).trans rfl; have hcz67_3 : w63.cell? ⟨gb14029, 3, none⟩ = some (.slice none 0 0) := (blk_cell BK14029.out 3).trans rfl; have hfz67_0 := blk_frozen BK14029.out 0; have hfz67_1 := blk_frozen BK14029.out 1; have hfz67_2 := blk_frozen BK14029.out 2; have hfz67_3 := blk_frozen BK14029.out 3))
     go_loopg [10] kj5 (fun kq v10 w' => ∃ (x10_2 : Int) (x14030000_2 : Int) (x14030001_2 : Int) (x14030002_2 : Int) (x14030003_2 : List Int) (u14030003 : Value), v10 = .int .i64 x10_2 ∧ Aside0 (laws_FnFlattenLayers.l0 kq t14007 x10_2 t14011 t14012 t14013 t14014 x14030000_2 x14030001_2 x14030002_2 x14030003_2 = some r) ∧ Aside0 (kq ≤ kj5) ∧ Aside0 (Kd.N k55 55 w' w.heap.size (fun k_ => some k_ ≠ ((.slice Ao10 t14004.length co10) : Value).ownBlock ∧ some k_ ≠ ((.slice Ao16 t14014.length co16) : Value).ownBlock ∧ some k_ ≠ ((.slice Ao23 t14022.length co23) : Value).ownBlock ∧ some k_ ≠ (u14030003 : Value).ownBlock ∧ k_ ≠ gb14010 ∧ k_ ≠ gb14018 ∧ k_ ≠ gb14026 ∧ k_ ≠ gb14029) (.slice Ao11 t14007.length co11) t14007) ∧ Aside0 (Kd.Q (Kd.int .i64) 3 w' w.heap.size (fun k_ => some k_ ≠ ((.slice Ao16 t14014.length co16) : Value).ownBlock ∧ some k_ ≠ ((.slice Ao23 t14022.length co23) : Value).ownBlock) (.slice Ao10 t14004.length co10) t14004) ∧ Aside0 (Kd.Q (Kd.int .i64) 3 w' w.heap.size (fun k_ => some k_ ≠ ((.slice Ao10 t14004.length co10) : Value).ownBlock ∧ some k_ ≠ ((.slice Ao23 t14022.length co23) : Value).ownBlock ∧ some k_ ≠ (u14030003 : Value).ownBlock) (.slice Ao16 t14014.length co16) t14014) ∧ Aside0 (Kd.Q (Kd.int .i64) 3 w' w.heap.size (fun k_ => some k_ ≠ ((.slice Ao10 t14004.length co10) : Value).ownBlock ∧ some k_ ≠ ((.slice Ao16 t14014.length co16) : Value).ownBlock ∧ some k_ ≠ (u14030003 : Value).ownBlock) (.slice Ao23 t14022.length co23) t14022) ∧ Aside0 (Kd.Q (Kd.int .i64) 3 w' w.heap.size (fun k_ => some k_ ≠ ((.slice Ao16 t14014.length co16) : Value).ownBlock ∧ some k_ ≠ ((.slice Ao23 t14022.length co23) : Value).ownBlock) u14030003 x14030003_2) ∧ Aside0 (w'.heap[gb14010]? = some (.cells #[.int .i64 t14001, .int .i64 t14002, .int .i64 t14003, (.slice Ao10 t14004.length co10)] 27 (0, 0))) ∧ Aside0 (w'.heap[gb14018]? = some (.cells #[.int .i64 t14011, .int .i64 t14012, .int .i64 t14013, (.slice Ao16 t14014.length co16)] 27 (0, 0))) ∧ Aside0 (w'.heap[gb14026]? = some (.cells #[.int .i64 t14019, .int .i64 t14020, .int .i64 t14021, (.slice Ao23 t14022.length co23)] 27 (0, 0))) ∧ Aside0 (w'.heap[gb14029]? = some (.cells #[.int .i64 x14030000_2, .int .i64 x14030001_2, .int .i64 x14030002_2, u14030003] 27 (0, 0))) ∧ Aside0 (Below w.heap.size w w'))
     case atStart => exact ⟨(0), (t14001), (t14002), (t14003), (t14004), (.slice Ao10 t14004.length co10), (by rfl), H', ⟨Nat.le_refl _⟩, ⟨by (with_reducible repeat (first | apply Kd.N_alloc | apply Kd.N_drewN | apply Kd.N_drew)); exact Kd.N_mono (Kd.N_far (p := ⟨gb14029, 3, none⟩) (Kd.N_far (p := ⟨gb14029, 2, none⟩) (Kd.N_far (p := ⟨gb14029, 1, none⟩) (Kd.N_far (p := ⟨gb14029, 0, none⟩) (Kd.N_mono HO_4.out (fun k_ hk => (⟨hk, hk.2⟩ : _ ∧ k_ ≠ gb14029))) (fun _ hk => hk.2) (.int .i64 t14001)) (fun _ hk => hk.2) (.int .i64 t14002)) (fun _ hk => hk.2) (.int .i64 t14003)) (fun _ hk => hk.2) (.slice Ao10 t14004.length co10)) (fun _ hk => ⟨hk.1.1.1, ⟨hk.1.1.2.1, ⟨hk.1.1.2.2.1, ⟨hk.1.1.1, ⟨hk.1.1.2.2.2.1, ⟨hk.1.1.2.2.2.2.1, ⟨hk.1.1.2.2.2.2.2, hk.1.2⟩⟩⟩⟩⟩⟩⟩)⟩, ⟨by (with_reducible repeat (first | apply Kd.Q_alloc | apply Kd.Q_drewN | apply Kd.Q_drew)); exact Kd.Q_mono (Kd.Q_far (p := ⟨gb14029, 3, none⟩) (Kd.Q_far (p := ⟨gb14029, 2, none⟩) (Kd.Q_far (p := ⟨gb14029, 1, none⟩) (Kd.Q_far (p := ⟨gb14029, 0, none⟩) (Kd.Q_types HO_14011003.out BK14029.out (by decide)) (fun _ hk => hk.2) (.int .i64 t14001)) (fun _ hk => hk.2) (.int .i64 t14002)) (fun _ hk => hk.2) (.int .i64 t14003)) (fun _ hk => hk.2) (.slice Ao10 t14004.length co10)) (fun _ hk => ⟨hk.1.1, hk.1.2⟩)⟩, ⟨by (with_reducible repeat (first | apply Kd.Q_alloc | apply Kd.Q_drewN | apply Kd.Q_drew)); exact Kd.Q_mono (Kd.Q_far (p := ⟨gb14029, 3, none⟩) (Kd.Q_far (p := ⟨gb14029, 2, none⟩) (Kd.Q_far (p := ⟨gb14029, 1, none⟩) (Kd.Q_far (p := ⟨gb14029, 0, none⟩) (Kd.Q_types HO_14019003.out BK14029.out (by decide)) (fun _ hk => hk.2) (.int .i64 t14001)) (fun _ hk => hk.2) (.int .i64 t14002)) (fun _ hk => hk.2) (.int .i64 t14003)) (fun _ hk => hk.2) (.slice Ao10 t14004.length co10)) (fun _ hk => ⟨hk.1.1, ⟨hk.1.2, hk.1.1⟩⟩)⟩, ⟨by (with_reducible repeat (first | apply Kd.Q_alloc | apply Kd.Q_drewN | apply Kd.Q_drew)); exact Kd.Q_mono (Kd.Q_far (p := ⟨gb14029, 3, none⟩) (Kd.Q_far (p := ⟨gb14029, 2, none⟩) (Kd.Q_far (p := ⟨gb14029, 1, none⟩) (Kd.Q_far (p := ⟨gb14029, 0, none⟩) (Kd.Q_types HO_14027003.out BK14029.out (by decide)) (fun _ hk => hk.2) (.int .i64 t14001)) (fun _ hk => hk.2) (.int .i64 t14002)) (fun _ hk => hk.2) (.int .i64 t14003)) (fun _ hk => hk.2) (.slice Ao10 t14004.length co10)) (fun _ hk => ⟨hk.1.1, ⟨hk.1.2, hk.1.1⟩⟩)⟩, ⟨by (with_reducible repeat (first | apply Kd.Q_alloc | apply Kd.Q_drewN | apply Kd.Q_drew)); exact Kd.Q_mono (Kd.Q_far (p := ⟨gb14029, 3, none⟩) (Kd.Q_far (p := ⟨gb14029, 2, none⟩) (Kd.Q_far (p := ⟨gb14029, 1, none⟩) (Kd.Q_far (p := ⟨gb14029, 0, none⟩) (Kd.Q_types HO_14011003.out BK14029.out (by decide)) (fun _ hk => hk.2) (.int .i64 t14001)) (fun _ hk => hk.2) (.int .i64 t14002)) (fun _ hk => hk.2) (.int .i64 t14003)) (fun _ hk => hk.2) (.slice Ao10 t14004.length co10)) (fun _ hk => ⟨hk.1.1, hk.1.2⟩)⟩, ⟨by (with_reducible repeat (first | refine blk_drewN ?_ _ | refine blk_drew ?_ | refine blk_alloc ?_ _)); refine blk_far ?_ NB14010_14029.out _; (with_reducible repeat (first | refine blk_drewN ?_ _ | refine blk_drew ?_ | refine blk_alloc ?_ _)); refine blk_far ?_ NB14010_14029.out _; (with_reducible repeat (first | refine blk_drewN ?_ _ | refine blk_drew ?_ | refine blk_alloc ?_ _)); refine blk_far ?_ NB14010_14029.out _; (with_reducible repeat (first | refine blk_drewN ?_ _ | refine blk_drew ?_ | refine blk_alloc ?_ _)); refine blk_far ?_ NB14010_14029.out _; (with_reducible repeat (first | refine blk_drewN ?_ _ | refine blk_drew ?_ | refine blk_alloc ?_ _)); exact BK14010.out⟩, ⟨by (with_reducible repeat (first | refine blk_drewN ?_ _ | refine blk_drew ?_ | refine blk_alloc ?_ _)); refine blk_far ?_ NB14018_14029.out _; (with_reducible repeat (first | refine blk_drewN ?_ _ | refine blk_drew ?_ | refine blk_alloc ?_ _)); refine blk_far ?_ NB14018_14029.out _; (with_reducible repeat (first | refine blk_drewN ?_ _ | refine blk_drew ?_ | refine blk_alloc ?_ _)); refine blk_far ?_ NB14018_14029.out _; (with_reducible repeat (first | refine blk_drewN ?_ _ | refine blk_drew ?_ | refine blk_alloc ?_ _)); refine blk_far ?_ NB14018_14029.out _; (with_reducible repeat (first | refine blk_drewN ?_ _ | refine blk_drew ?_ | refine blk_alloc ?_ _)); exact BK14018.out⟩, ⟨by (with_reducible repeat (first | refine blk_drewN ?_ _ | refine blk_drew ?_ | refine blk_alloc ?_ _)); refine blk_far ?_ NB14026_14029.out _; (with_reducible repeat (first | refine blk_drewN ?_ _ | refine blk_drew ?_ | refine blk_alloc ?_ _)); refine blk_far ?_ NB14026_14029.out _; (with_reducible repeat (first | refine blk_drewN ?_ _ | refine blk_drew ?_ | refine blk_alloc ?_ _)); refine blk_far ?_ NB14026_14029.out _; (with_reducible repeat (first | refine blk_drewN ?_ _ | refine blk_drew ?_ | refine blk_alloc ?_ _)); refine blk_far ?_ NB14026_14029.out _; (with_reducible repeat (first | refine blk_drewN ?_ _ | refine blk_drew ?_ | refine blk_alloc ?_ _)); exact BK14026.out⟩, ⟨by (with_reducible repeat (first | refine blk_drewN ?_ _ | refine blk_drew ?_ | refine blk_alloc ?_ _)); refine blk_put (cs := #[.int .i64 t14001, .int .i64 t14002, .int .i64 t14003, .slice none 0 0]) ?_ 3 _ rfl; (with_reducible repeat (first | refine blk_drewN ?_ _ | refine blk_drew ?_ | refine blk_alloc ?_ _)); refine blk_put (cs := #[.int .i64 t14001, .int .i64 t14002, .int .i64 0, .slice none 0 0]) ?_ 2 _ rfl; (with_reducible repeat (first | refine blk_drewN ?_ _ | refine blk_drew ?_ | refine blk_alloc ?_ _)); refine blk_put (cs := #[.int .i64 t14001, .int .i64 0, .int .i64 0, .slice none 0 0]) ?_ 1 _ rfl; (with_reducible repeat (first | refine blk_drewN ?_ _ | refine blk_drew ?_ | refine blk_alloc ?_ _)); refine blk_put (cs := #[.int .i64 0, .int .i64 0, .int .i64 0, .slice none 0 0]) ?_ 0 _ rfl; (with_reducible repeat (first | refine blk_drewN ?_ _ | refine blk_drew ?_ | refine blk_alloc ?_ _)); exact BK14029.out⟩, ⟨by repeat (with_reducible first | exact HB.out | refine below_set ?_ GE14029.out)⟩⟩
     case round =>
      clear H'
      try clear c1
      try clear c2
      try clear c2b0
      try clear c2b1
      try clear p2
      try clear c3
      try clear c4
      try clear c5
      try clear c6
      try clear c7
      try clear c13
      try clear c14
      try clear c20
      try clear c21
      try clear c25
      try clear c26
      try clear c26b0
      try clear c26b1
      try clear c26b2
      try clear c27
      try clear c28
      try clear c30
      try clear c33
      try clear c34
      try clear c36
      try clear c39
      try clear c40
      try clear c42
      try clear c45
      try clear c47
      try clear c48
      try clear c49
      try clear c51
      try clear c54
      try clear c55
      try clear c57
      try clear c60
      try clear c61
      try clear c64
      try clear c65
      try clear c66
      try clear c67
      try clear hcz15_0
      try clear hcz15_1
      try clear hcz15_2
      try clear hcz15_3
      try clear hcz17_0
      try clear hcz17_1
      try clear hcz17_2
      try clear hcz17_3
      try clear hcz22_0
      try clear hcz22_1
      try clear hcz22_2
      try clear hcz22_3
      try clear hcz29_0
      try clear hcz29_1
      try clear hcz29_2
      try clear hcz29_3
      try clear hcz31_0
      try clear hcz31_1
      try clear hcz31_2
      try clear hcz31_3
      try clear hcz35_0
      try clear hcz35_1
      try clear hcz35_2
      try clear hcz35_3
      try clear hcz37_0
      try clear hcz37_1
      try clear hcz37_2
      try clear hcz37_3
      try clear hcz41_0
      try clear hcz41_1
      try clear hcz41_2
      try clear hcz41_3
      try clear hcz43_0
      try clear hcz43_1
      try clear hcz43_2
      try clear hcz43_3
      try clear hcz50_0
      try clear hcz50_1
      try clear hcz50_2
      try clear hcz50_3
      try clear hcz52_0
      try clear hcz52_1
      try clear hcz52_2
      try clear hcz52_3
      try clear hcz56_0
      try clear hcz56_1
      try clear hcz56_2
      try clear hcz56_3
      try clear hcz58_0
      try clear hcz58_1
      try clear hcz58_2
      try clear hcz58_3
      try clear hcz62_0
      try clear hcz62_1
      try clear hcz62_2
      try clear hcz62_3
      try clear hcz67_0
      try clear hcz67_1
      try clear hcz67_2
      try clear hcz67_3
      try clear hcz9_0
      try clear hcz9_1
      try clear hcz9_2
      try clear hcz9_3
      try clear hfz15_0
      try clear hfz15_1
      try clear hfz15_2
      try clear hfz15_3
      try clear hfz17_0
      try clear hfz17_1
      try clear hfz17_2
      try clear hfz17_3
      try clear hfz22_0
      try clear hfz22_1
      try clear hfz22_2
      try clear hfz22_3
      try clear hfz29_0
      try clear hfz29_1
      try clear hfz29_2
      try clear hfz29_3
      try clear hfz31_0
      try clear hfz31_1
      try clear hfz31_2
      try clear hfz31_3
      try clear hfz35_0
      try clear hfz35_1
      try clear hfz35_2
      try clear hfz35_3
      try clear hfz37_0
      try clear hfz37_1
      try clear hfz37_2
      try clear hfz37_3
      try clear hfz41_0
      try clear hfz41_1
      try clear hfz41_2
      try clear hfz41_3
      try clear hfz43_0
      try clear hfz43_1
      try clear hfz43_2
      try clear hfz43_3
      try clear hfz50_0
      try clear hfz50_1
      try clear hfz50_2
      try clear hfz50_3
      try clear hfz52_0
      try clear hfz52_1
      try clear hfz52_2
      try clear hfz52_3
      try clear hfz56_0
      try clear hfz56_1
      try clear hfz56_2
      try clear hfz56_3
      try clear hfz58_0
      try clear hfz58_1
      try clear hfz58_2
      try clear hfz58_3
      try clear hfz62_0
      try clear hfz62_1
      try clear hfz62_2
      try clear hfz62_3
      try clear hfz67_0
      try clear hfz67_1
      try clear hfz67_2
      try clear hfz67_3
      try clear hfz9_0
      try clear hfz9_1
      try clear hfz9_2
      try clear hfz9_3
      try clear p2
      obtain ⟨x10_2, x14030000_2, x14030001_2, x14030002_2, x14030003_2, u14030003, rfl, HA, HK2, HO_4, HO_14011003, HO_14019003, HO_14027003, HO_14030003, BK14010, BK14018, BK14026, BK14029, HB⟩ := hrel
      cases gk with
      | zero => exact absurd HA.out (by simp [laws_FnFlattenLayers.l0])
      | succ k2 =>
       have H := HA.out
       clear HA
       simp only [laws_FnFlattenLayers.l0] at H
       by_cases c68 : x10_2 < (t14007.length : Int)
       ·rw [if_pos c68] at H
        have c68b0 : decide (x10_2 < (t14007.length : Int)) = true := decide_eq_true c68
        clear c68
        by_cases c69 : 0 ≤ x10_2
        ·rw [if_pos c69] at H
         have c69b0 : decide (0 ≤ x10_2) = true := decide_eq_true c69
         clear c69
         obtain ⟨bq70, hbq70⟩ : ∃ b_ : Bool, b_ = ((rd_T55 t14007 x10_2).f5) := ⟨_, rfl⟩
         replace H : (if bq70 = true then (laws_FnFlattenLayers.l0 k2 t14007 (wrap64 (x10_2 + 1)) t14011 t14012 t14013 t14014 x14030000_2 x14030001_2 x14030002_2 x14030003_2) else ((impl_CoverImage.f x14030000_2 x14030001_2 x14030002_2 x14030003_2 ((rd_T55 t14007 x10_2).f0.f0) ((rd_T55 t14007 x10_2).f0.f1) ((rd_T55 t14007 x10_2).f0.f2) ((rd_T55 t14007 x10_2).f0.f3) ((rd_T55 t14007 x10_2).f1) ((rd_T55 t14007 x10_2).f2) ((rd_T55 t14007 x10_2).f3) ((rd_T55 t14007 x10_2).f4) bq70).bind fun bt14033 => (if bt14033.2.2.2.2 = true then (laws_FnFlattenLayers.l0 k2 t14007 (wrap64 (x10_2 + 1)) t14011 t14012 t14013 t14014 bt14033.1 bt14033.2.1 bt14033.2.2.1 bt14033.2.2.2.1) else (some false)))) = some r := by rw [← hbq70] at H; exact H
         have Nbq70 := mk hbq70
         clear hbq70
         by_cases c71 : bq70 = true
         ·subst c71
          have H1 : (laws_FnFlattenLayers.l0 k2 t14007 (wrap64 (x10_2 + 1)) t14011 t14012 t14013 t14014 x14030000_2 x14030001_2 x14030002_2 x14030003_2) = some r := by rw [if_pos rfl] at H; exact H
          clear H
          have H := H1
          clear H1
          have H' := mk H
          clear H
          have p14031 : 0 ≤ (x10_2 : Int) := of_decide_eq_true (by (with_reducible assumption))
          have q14031 : x10_2 < (t14007.length : Int) := of_decide_eq_true (by (with_reducible assumption))
          obtain ⟨ad14031, A14031_3, c14031_3, e14031, hx14031_0, hx14031_1, hx14031_2, hx14031_3, hx14031_4, hx14031_5, hx14031_6, hx14031_7, hx14031_8, hl14031_3, hi14031_3⟩ := at_T55 (Kd.N_reads' HO_4.out).2.2 x10_2 p14031 q14031
          (try rw [← Nbq70.out] at hx14031_8)
          cases e14031
          obtain ⟨ce14031, hce14031, hMe14031, hcc14031⟩ := Kd.N_get HO_4.out z55 x10_2 p14031 q14031
          obtain ⟨ua14031_3, uc14031_3, rfl, ul14031_3, ge14031_3⟩ := k55_openF hMe14031
          have hv14031_3 := hcc14031 3 _ rfl
          rw [add_field _ _ 3 (by omega)] at hv14031_3
          replace hv14031_3 := Option.some.inj (hv14031_3.symm.trans hx14031_3)
          injection hv14031_3 with hva_ hvn_ hvc_
          rw [hva_] at ge14031_3
          rw [hvc_] at ul14031_3
          have HL14031_3 := mk (show Kd.V (Kd.int .i64) 3 _ w.heap.size _ _ ((rd_T55 t14007 x10_2).f0.f3) from Kd.V_mk ul14031_3 ge14031_3)
          clear hva_ hvn_ hvc_ ge14031_3 ul14031_3 hcc14031 hce14031
          have HR14031_3 := mk hi14031_3
          have HC14031_3 := mk hl14031_3
          clear hi14031_3 hl14031_3
          replace p14031 := eq_true p14031
          replace q14031 := eq_true q14031
          go_wp2
          go_roundg k2
          case measure => have := HJ5.out; have := HK2.out; omega
          case rel => exact ⟨(wrap64 (x10_2 + 1)), (x14030000_2), (x14030001_2), (x14030002_2), (x14030003_2), (u14030003), (by rfl), H', ⟨by have := HJ5.out; have := HK2.out; omega⟩, ⟨by (with_reducible repeat (first | apply Kd.N_alloc | apply Kd.N_drewN | apply Kd.N_drew)); exact HO_4.out⟩, ⟨by (with_reducible repeat (first | apply Kd.Q_alloc | apply Kd.Q_drewN | apply Kd.Q_drew)); exact Kd.Q_mono HO_14011003.out (fun _ hk => by simp [hk])⟩, ⟨by (with_reducible repeat (first | apply Kd.Q_alloc | apply Kd.Q_drewN | apply Kd.Q_drew)); exact HO_14019003.out⟩, ⟨by (with_reducible repeat (first | apply Kd.Q_alloc | apply Kd.Q_drewN | apply Kd.Q_drew)); exact HO_14027003.out⟩, ⟨by (with_reducible repeat (first | apply Kd.Q_alloc | apply Kd.Q_drewN | apply Kd.Q_drew)); exact Kd.Q_mono HO_14030003.out (fun _ hk => by simp [hk])⟩, ⟨by (with_reducible repeat (first | refine blk_drewN ?_ _ | refine blk_drew ?_ | refine blk_alloc ?_ _)); exact BK14010.out⟩, ⟨by (with_reducible repeat (first | refine blk_drewN ?_ _ | refine blk_drew ?_ | refine blk_alloc ?_ _)); exact BK14018.out⟩, ⟨by (with_reducible repeat (first | refine blk_drewN ?_ _ | refine blk_drew ?_ | refine blk_alloc ?_ _)); exact BK14026.out⟩, ⟨by (with_reducible repeat (first | refine blk_drewN ?_ _ | refine blk_drew ?_ | refine blk_alloc ?_ _)); exact BK14029.out⟩, ⟨by exact HB.out⟩⟩
         ·replace c71 := Bool.eq_false_iff.mpr c71
          subst c71
          have H1 : ((impl_CoverImage.f x14030000_2 x14030001_2 x14030002_2 x14030003_2 ((rd_T55 t14007 x10_2).f0.f0) ((rd_T55 t14007 x10_2).f0.f1) ((rd_T55 t14007 x10_2).f0.f2) ((rd_T55 t14007 x10_2).f0.f3) ((rd_T55 t14007 x10_2).f1) ((rd_T55 t14007 x10_2).f2) ((rd_T55 t14007 x10_2).f3) ((rd_T55 t14007 x10_2).f4) false).bind fun bt14033 => (if bt14033.2.2.2.2 = true then (laws_FnFlattenLayers.l0 k2 t14007 (wrap64 (x10_2 + 1)) t14011 t14012 t14013 t14014 bt14033.1 bt14033.2.1 bt14033.2.2.1 bt14033.2.2.2.1) else (some false))) = some r := by rw [if_neg (show ¬ (false = true) by decide)] at H; exact H
          clear H
          have H := H1
          clear H1
          replace H := Option.bind_eq_some_iff.mp H
          obtain ⟨⟨t14033, t14034, t14035, t14036, t14039⟩, A720, H⟩ := H
          replace H : (if t14039 = true then (laws_FnFlattenLayers.l0 k2 t14007 (wrap64 (x10_2 + 1)) t14011 t14012 t14013 t14014 t14033 t14034 t14035 t14036) else (some false)) = some r := H
          have A72 := mk A720
          clear A720
          by_cases c73 : t14039 = true
          ·subst c73
           have H1 : (laws_FnFlattenLayers.l0 k2 t14007 (wrap64 (x10_2 + 1)) t14011 t14012 t14013 t14014 t14033 t14034 t14035 t14036) = some r := by rw [if_pos rfl] at H; exact H
           clear H
           have H := H1
           clear H1
           have H' := mk H
           clear H
           have p14031 : 0 ≤ (x10_2 : Int) := of_decide_eq_true (by (with_reducible assumption))
           have q14031 : x10_2 < (t14007.length : Int) := of_decide_eq_true (by (with_reducible assumption))
           obtain ⟨ad14031, A14031_3, c14031_3, e14031, hx14031_0, hx14031_1, hx14031_2, hx14031_3, hx14031_4, hx14031_5, hx14031_6, hx14031_7, hx14031_8, hl14031_3, hi14031_3⟩ := at_T55 (Kd.N_reads' HO_4.out).2.2 x10_2 p14031 q14031
           (try rw [← Nbq70.out] at hx14031_8)
           cases e14031
           obtain ⟨ce14031, hce14031, hMe14031, hcc14031⟩ := Kd.N_get HO_4.out z55 x10_2 p14031 q14031
           obtain ⟨ua14031_3, uc14031_3, rfl, ul14031_3, ge14031_3⟩ := k55_openF hMe14031
           have hv14031_3 := hcc14031 3 _ rfl
           rw [add_field _ _ 3 (by omega)] at hv14031_3
           replace hv14031_3 := Option.some.inj (hv14031_3.symm.trans hx14031_3)
           injection hv14031_3 with hva_ hvn_ hvc_
           rw [hva_] at ge14031_3
           rw [hvc_] at ul14031_3
           have HL14031_3 := mk (show Kd.V (Kd.int .i64) 3 _ w.heap.size _ _ ((rd_T55 t14007 x10_2).f0.f3) from Kd.V_mk ul14031_3 ge14031_3)
           clear hva_ hvn_ hvc_ ge14031_3 ul14031_3 hcc14031 hce14031
           have HR14031_3 := mk hi14031_3
           have HC14031_3 := mk hl14031_3
           clear hi14031_3 hl14031_3
           replace p14031 := eq_true p14031
           replace q14031 := eq_true q14031
           obtain ⟨Ao74, co74, eo74, _⟩ := Kd.Q_slice HO_14030003.out
           subst eo74
           try go_wp2
           have n0_ := mk (Kd.N_drew HO_4.out)
           have n1_ := mk (Kd.Q_drew HO_14011003.out)
           have n2_ := mk (Kd.Q_drew HO_14019003.out)
           have n3_ := mk (Kd.Q_drew HO_14027003.out)
           have n4_ := mk (Kd.Q_drew HO_14030003.out)
           have n5_ := mk (Kd.V_drew HL14031_3.out)
           have n6_ := mk (blk_drew BK14010.out)
           have n7_ := mk (blk_drew BK14018.out)
           have n8_ := mk (blk_drew BK14026.out)
           have n9_ := mk (blk_drew BK14029.out)
           have n10_ := mk (Kd.C_drew HR14031_3.out)
           have n11_ := mk (below_drew1 HB.out)
           clear HO_4 HO_14011003 HO_14019003 HO_14027003 HO_14030003 HL14031_3 BK14010 BK14018 BK14026 BK14029 HR14031_3 HB
           revert n0_ n1_ n2_ n3_ n4_ n5_ n6_ n7_ n8_ n9_ n10_ n11_; intro HO_4 HO_14011003 HO_14019003 HO_14027003 HO_14030003 HL14031_3 BK14010 BK14018 BK14026 BK14029 HR14031_3 HB
           have p14032 : 0 ≤ (x10_2 : Int) := of_decide_eq_true (by (with_reducible assumption))
           have q14032 : x10_2 < (t14007.length : Int) := of_decide_eq_true (by (with_reducible assumption))
           obtain ⟨ad14032, A14032_3, c14032_3, e14032, hx14032_0, hx14032_1, hx14032_2, hx14032_3, hx14032_4, hx14032_5, hx14032_6, hx14032_7, hx14032_8, hl14032_3, hi14032_3⟩ := at_T55 (Kd.N_reads' HO_4.out).2.2 x10_2 p14032 q14032
           (try rw [← Nbq70.out] at hx14032_8)
           obtain rfl : ad14031 = ad14032 := (by injection e14032)
           obtain ⟨ce14032, hce14032, hMe14032, hcc14032⟩ := Kd.N_get HO_4.out z55 x10_2 p14032 q14032
           obtain ⟨ua14032_3, uc14032_3, rfl, ul14032_3, ge14032_3⟩ := k55_openF hMe14032
           have hv14032_3 := hcc14032 3 _ rfl
           rw [add_field _ _ 3 (by omega)] at hv14032_3
           replace hv14032_3 := Option.some.inj (hv14032_3.symm.trans hx14032_3)
           injection hv14032_3 with hva_ hvn_ hvc_
           rw [hva_] at ge14032_3
           rw [hvc_] at ul14032_3
           have HL14032_3 := mk (show Kd.V (Kd.int .i64) 3 _ w.heap.size _ _ ((rd_T55 t14007 x10_2).f0.f3) from Kd.V_mk ul14032_3 ge14032_3)
           clear hva_ hvn_ hvc_ ge14032_3 ul14032_3 hcc14032 hce14032
           have HR14032_3 := mk hi14032_3
           have HC14032_3 := mk hl14032_3
           clear hi14032_3 hl14032_3
           replace p14032 := eq_true p14032
           replace q14032 := eq_true q14032
           refine start_ (n := 12) (S := fun w' => w'.cell? ⟨gb14029, 0, none⟩ = some (.int .i64 x14030000_2) ∧ w'.cell? ⟨gb14029, 1, none⟩ = some (.int .i64 x14030001_2) ∧ w'.cell? ⟨gb14029, 2, none⟩ = some (.int .i64 x14030002_2) ∧ w'.cell? ⟨gb14029, 3, none⟩ = some (.slice Ao74 x14030003_2.length co74) ∧ w'.cell? (ad14031.add ((x10_2).toNat * 9)) = some (.int .i64 ((rd_T55 t14007 x10_2).f0.f0)) ∧ w'.cell? ⟨(ad14031.add ((x10_2).toNat * 9)).block, (ad14031.add ((x10_2).toNat * 9)).off + 1, none⟩ = some (.int .i64 ((rd_T55 t14007 x10_2).f0.f1)) ∧ w'.cell? ⟨(ad14031.add ((x10_2).toNat * 9)).block, (ad14031.add ((x10_2).toNat * 9)).off + 2, none⟩ = some (.int .i64 ((rd_T55 t14007 x10_2).f0.f2)) ∧ w'.cell? ⟨(ad14031.add ((x10_2).toNat * 9)).block, (ad14031.add ((x10_2).toNat * 9)).off + 3, none⟩ = some (.slice A14032_3 ((rd_T55 t14007 x10_2).f0.f3).length c14032_3) ∧ w'.cell? ⟨(ad14031.add ((x10_2).toNat * 9)).block, (ad14031.add ((x10_2).toNat * 9)).off + 4, none⟩ = some (.int .i64 ((rd_T55 t14007 x10_2).f1)) ∧ w'.cell? ⟨(ad14031.add ((x10_2).toNat * 9)).block, (ad14031.add ((x10_2).toNat * 9)).off + 5, none⟩ = some (.int .i64 ((rd_T55 t14007 x10_2).f2)) ∧ w'.cell? ⟨(ad14031.add ((x10_2).toNat * 9)).block, (ad14031.add ((x10_2).toNat * 9)).off + 6, none⟩ = some (.int .i64 ((rd_T55 t14007 x10_2).f3)) ∧ w'.cell? ⟨(ad14031.add ((x10_2).toNat * 9)).block, (ad14031.add ((x10_2).toNat * 9)).off + 7, none⟩ = some (.int .i64 ((rd_T55 t14007 x10_2).f4)) ∧ w'.cell? ⟨(ad14031.add ((x10_2).toNat * 9)).block, (ad14031.add ((x10_2).toNat * 9)).off + 8, none⟩ = some (.bool false)) (ds := []) #[false, false, false, false, false, false, false, false, false, false, false, false] (by kernel_rfl) rfl rfl ⟨(blk_cell BK14029.out 0).trans rfl, (blk_cell BK14029.out 1).trans rfl, (blk_cell BK14029.out 2).trans rfl, (blk_cell BK14029.out 3).trans rfl, hx14032_0, hx14032_1, hx14032_2, hx14032_3, hx14032_4, hx14032_5, hx14032_6, hx14032_7, hx14032_8⟩ (fun hHeld => ?_); refine with_tabW laws_FnFlattenLayers.tab13 laws_FnFlattenLayers.bits13 (fun HT_ HW_ => ?_)
           generalize wr.drew = w75 at HO_4 HO_14011003 HO_14019003 HO_14027003 HO_14030003 HL14031_3 BK14010 BK14018 BK14026 BK14029 HR14031_3 HB HL14032_3 HR14032_3 hx14032_0 hx14032_1 hx14032_2 hx14032_3 hx14032_4 hx14032_5 hx14032_6 hx14032_7 hx14032_8 hHeld ⊢
           refine pure_ (i := 1) (N := some 68) (v := ?_) (a' := ?_) #[false, true, false, false, false, false, false, false, false, false, false, false] rfl rfl (any_of HT_.out (by kernel_rfl)) (fun _ _ _ h => h) (Or.inl ⟨by rfl, ?_⟩) ?_ ?_
           rotate_left
           ·intro w'
            go_simp
            with_reducible rfl
           rotate_left
           ·simp only [Act.put, List.setIfInBounds_toArray, List.set_cons_zero, List.set_cons_succ, i64_w, i32_w]
            rfl
           refine pure_ (i := 2) (N := some 69) (v := ?_) (a' := ?_) #[false, true, true, false, false, false, false, false, false, false, false, false] rfl rfl (any_of HT_.out (by kernel_rfl)) (fun _ _ _ h => h) (Or.inl ⟨by rfl, ?_⟩) ?_ ?_
           rotate_left
           ·intro w'
            go_simp
            with_reducible rfl
           rotate_left
           ·simp only [Act.put, List.setIfInBounds_toArray, List.set_cons_zero, List.set_cons_succ, i64_w, i32_w]
            rfl
           refine pure_ (i := 3) (N := some 70) (v := ?_) (a' := ?_) #[false, true, true, true, false, false, false, false, false, false, false, false] rfl rfl (any_of HT_.out (by kernel_rfl)) (fun _ _ _ h => h) (Or.inl ⟨by rfl, ?_⟩) ?_ ?_
           rotate_left
           ·intro w'
            go_simp
            with_reducible rfl
           rotate_left
           ·simp only [Act.put, List.setIfInBounds_toArray, List.set_cons_zero, List.set_cons_succ, i64_w, i32_w]
            rfl
           refine take_ (i := 0) (N := some 67) (v := ?_) (a' := ?_) #[true, true, true, true, false, false, false, false, false, false, false, false] rfl rfl (take_ofW HT_.out HW_.out (by kernel_rfl)) (fun _ _ _ h => h) (Or.inl ⟨by rfl, ?_⟩) hHeld ?_ ?_
           rotate_left
           ·rintro w' ⟨s0, s1, s2, s3, s4, s5, s6, s7, s8, s9, s10, s11, s12⟩
            go_simp
            with_reducible rfl
           rotate_left
           ·simp only [Act.put, List.setIfInBounds_toArray, List.set_cons_zero, List.set_cons_succ, i64_w, i32_w]
            rfl
           refine take_ (i := 4) (N := some 71) (v := ?_) (a' := ?_) #[true, true, true, true, true, false, false, false, false, false, false, false] rfl rfl (take_ofW HT_.out HW_.out (by kernel_rfl)) (fun _ _ _ h => h) (Or.inl ⟨by rfl, ?_⟩) hHeld ?_ ?_
           rotate_left
           ·rintro w' ⟨s0, s1, s2, s3, s4, s5, s6, s7, s8, s9, s10, s11, s12⟩
            go_simp
            with_reducible rfl
           rotate_left
           ·simp only [Act.put, List.setIfInBounds_toArray, List.set_cons_zero, List.set_cons_succ, i64_w, i32_w]
            rfl
           refine join_ (σ := Value × Nat) 2 #[true, true, true, true, true, true, true, true, true, true, false, false] (fun s_ => [(72, .tuple #[.agg #[.int .i64 t14033, .int .i64 t14034, .int .i64 t14035, s_.1], .bool true]), (11, .pointer (some ⟨s_.2, 0, none⟩)), (66, .tuple #[.agg #[.int .i64 t14033, .int .i64 t14034, .int .i64 t14035, s_.1], .bool true]), (73, .agg #[.int .i64 t14033, .int .i64 t14034, .int .i64 t14035, s_.1]), (74, .bool true)]) (fun s_ w' => (w'.cell? ⟨gb14029, 0, none⟩ = some (.int .i64 x14030000_2) ∧ w'.cell? ⟨gb14029, 1, none⟩ = some (.int .i64 x14030001_2) ∧ w'.cell? ⟨gb14029, 2, none⟩ = some (.int .i64 x14030002_2) ∧ w'.cell? ⟨gb14029, 3, none⟩ = some (.slice Ao74 x14030003_2.length co74) ∧ w'.cell? (ad14031.add ((x10_2).toNat * 9)) = some (.int .i64 ((rd_T55 t14007 x10_2).f0.f0)) ∧ w'.cell? ⟨(ad14031.add ((x10_2).toNat * 9)).block, (ad14031.add ((x10_2).toNat * 9)).off + 1, none⟩ = some (.int .i64 ((rd_T55 t14007 x10_2).f0.f1)) ∧ w'.cell? ⟨(ad14031.add ((x10_2).toNat * 9)).block, (ad14031.add ((x10_2).toNat * 9)).off + 2, none⟩ = some (.int .i64 ((rd_T55 t14007 x10_2).f0.f2)) ∧ w'.cell? ⟨(ad14031.add ((x10_2).toNat * 9)).block, (ad14031.add ((x10_2).toNat * 9)).off + 3, none⟩ = some (.slice A14032_3 ((rd_T55 t14007 x10_2).f0.f3).length c14032_3) ∧ w'.cell? ⟨(ad14031.add ((x10_2).toNat * 9)).block, (ad14031.add ((x10_2).toNat * 9)).off + 4, none⟩ = some (.int .i64 ((rd_T55 t14007 x10_2).f1)) ∧ w'.cell? ⟨(ad14031.add ((x10_2).toNat * 9)).block, (ad14031.add ((x10_2).toNat * 9)).off + 5, none⟩ = some (.int .i64 ((rd_T55 t14007 x10_2).f2)) ∧ w'.cell? ⟨(ad14031.add ((x10_2).toNat * 9)).block, (ad14031.add ((x10_2).toNat * 9)).off + 6, none⟩ = some (.int .i64 ((rd_T55 t14007 x10_2).f3)) ∧ w'.cell? ⟨(ad14031.add ((x10_2).toNat * 9)).block, (ad14031.add ((x10_2).toNat * 9)).off + 7, none⟩ = some (.int .i64 ((rd_T55 t14007 x10_2).f4)) ∧ w'.cell? ⟨(ad14031.add ((x10_2).toNat * 9)).block, (ad14031.add ((x10_2).toNat * 9)).off + 8, none⟩ = some (.bool false)) ∧ (Kd.V (Kd.int .i64) 3 w' w.heap.size (fun k_ => some k_ ≠ (s_.1 : Value).ownBlock ∧ some k_ ≠ (.slice Ao10 t14004.length co10 : Value).ownBlock ∧ some k_ ≠ (.slice Ao16 t14014.length co16 : Value).ownBlock ∧ some k_ ≠ (.slice Ao23 t14022.length co23 : Value).ownBlock ∧ some k_ ≠ (.slice Ao74 x14030003_2.length co74 : Value).ownBlock ∧ some k_ ≠ (.slice (some ad14031) t14007.length co11 : Value).ownBlock ∧ k_ ≠ gb14010 ∧ k_ ≠ gb14018 ∧ k_ ≠ gb14026 ∧ k_ ≠ gb14029 ∧ k_ ≠ s_.2) (.slice A14031_3 ((rd_T55 t14007 x10_2).f0.f3).length c14031_3) ((rd_T55 t14007 x10_2).f0.f3)) ∧ (Kd.V (Kd.int .i64) 3 w' w.heap.size (fun k_ => some k_ ≠ (s_.1 : Value).ownBlock ∧ some k_ ≠ (.slice Ao10 t14004.length co10 : Value).ownBlock ∧ some k_ ≠ (.slice Ao16 t14014.length co16 : Value).ownBlock ∧ some k_ ≠ (.slice Ao23 t14022.length co23 : Value).ownBlock ∧ some k_ ≠ (.slice Ao74 x14030003_2.length co74 : Value).ownBlock ∧ some k_ ≠ (.slice (some ad14031) t14007.length co11 : Value).ownBlock ∧ k_ ≠ gb14010 ∧ k_ ≠ gb14018 ∧ k_ ≠ gb14026 ∧ k_ ≠ gb14029 ∧ k_ ≠ s_.2) (.slice A14032_3 ((rd_T55 t14007 x10_2).f0.f3).length c14032_3) ((rd_T55 t14007 x10_2).f0.f3)) ∧ (Kd.R (Kd.int .i64) 3 w' w.heap.size (fun k_ => some k_ ≠ (.slice Ao10 t14004.length co10 : Value).ownBlock ∧ some k_ ≠ (.slice Ao16 t14014.length co16 : Value).ownBlock ∧ some k_ ≠ (.slice Ao23 t14022.length co23 : Value).ownBlock ∧ some k_ ≠ (.slice Ao74 x14030003_2.length co74 : Value).ownBlock) s_.1 t14036) ∧ (Kd.Q (Kd.int .i64) 3 w' w.heap.size (fun k_ => some k_ ≠ (s_.1 : Value).ownBlock ∧ some k_ ≠ (.slice Ao16 t14014.length co16 : Value).ownBlock ∧ some k_ ≠ (.slice Ao23 t14022.length co23 : Value).ownBlock) (.slice Ao10 t14004.length co10) t14004) ∧ (Kd.Q (Kd.int .i64) 3 w' w.heap.size (fun k_ => some k_ ≠ (s_.1 : Value).ownBlock ∧ some k_ ≠ (.slice Ao10 t14004.length co10 : Value).ownBlock ∧ some k_ ≠ (.slice Ao23 t14022.length co23 : Value).ownBlock ∧ some k_ ≠ (.slice Ao74 x14030003_2.length co74 : Value).ownBlock) (.slice Ao16 t14014.length co16) t14014) ∧ (Kd.Q (Kd.int .i64) 3 w' w.heap.size (fun k_ => some k_ ≠ (s_.1 : Value).ownBlock ∧ some k_ ≠ (.slice Ao10 t14004.length co10 : Value).ownBlock ∧ some k_ ≠ (.slice Ao16 t14014.length co16 : Value).ownBlock ∧ some k_ ≠ (.slice Ao74 x14030003_2.length co74 : Value).ownBlock) (.slice Ao23 t14022.length co23) t14022) ∧ (Kd.Q (Kd.int .i64) 3 w' w.heap.size (fun k_ => some k_ ≠ (s_.1 : Value).ownBlock ∧ some k_ ≠ (.slice Ao16 t14014.length co16 : Value).ownBlock ∧ some k_ ≠ (.slice Ao23 t14022.length co23 : Value).ownBlock) (.slice Ao74 x14030003_2.length co74) x14030003_2) ∧ (Kd.N k55 55 w' w.heap.size (fun k_ => some k_ ≠ (s_.1 : Value).ownBlock ∧ some k_ ≠ (.slice Ao10 t14004.length co10 : Value).ownBlock ∧ some k_ ≠ (.slice Ao16 t14014.length co16 : Value).ownBlock ∧ some k_ ≠ (.slice Ao23 t14022.length co23 : Value).ownBlock ∧ some k_ ≠ (.slice Ao74 x14030003_2.length co74 : Value).ownBlock ∧ k_ ≠ gb14010 ∧ k_ ≠ gb14018 ∧ k_ ≠ gb14026 ∧ k_ ≠ gb14029 ∧ k_ ≠ s_.2) (.slice (some ad14031) t14007.length co11) t14007) ∧ (w'.heap[gb14010]? = some (.cells #[.int .i64 t14001, .int .i64 t14002, .int .i64 t14003, .slice Ao10 t14004.length co10] 27 (0, 0))) ∧ (w'.heap[gb14018]? = some (.cells #[.int .i64 t14011, .int .i64 t14012, .int .i64 t14013, .slice Ao16 t14014.length co16] 27 (0, 0))) ∧ (w'.heap[gb14026]? = some (.cells #[.int .i64 t14019, .int .i64 t14020, .int .i64 t14021, .slice Ao23 t14022.length co23] 27 (0, 0))) ∧ (w'.heap[gb14029]? = some (.cells #[.int .i64 x14030000_2, .int .i64 x14030001_2, .int .i64 x14030002_2, .slice Ao74 x14030003_2.length co74] 27 (0, 0))) ∧ (w'.heap[s_.2]? = some (.cells #[.int .i64 0, .int .i64 0, .int .i64 0, .slice none 0 0] 27 (0, 0))) ∧ (w.heap.size ≤ s_.2) ∧ (w.heap.size ≤ s_.2) ∧ (gb14010 ≠ s_.2) ∧ (s_.2 ≠ gb14010) ∧ (gb14018 ≠ s_.2) ∧ (s_.2 ≠ gb14018) ∧ (gb14026 ≠ s_.2) ∧ (s_.2 ≠ gb14026) ∧ (gb14029 ≠ s_.2) ∧ (s_.2 ≠ gb14029) ∧ (Below w.heap.size w w')) ?_ ?_
           rotate_left
           ·intro hCont
            refine two_ (i := 5) (j := 9) (Ni := some 72) (Nj := some 11) #[true, true, true, true, true, true, false, false, false, false, false, false] #[true, true, true, true, true, false, false, false, false, true, false, false] rfl rfl rfl rfl (two_of HT_.out (by kernel_rfl)) (by decide) (by decide) (fun K hK => ?_) (fun K hK => ?_)
            ·skip
             refine goes_ Try.func49 (by kernel_rfl) rfl #[.agg #[.int .i64 x14030000_2, .int .i64 x14030001_2, .int .i64 x14030002_2, .slice Ao74 x14030003_2.length co74], .agg #[.int .i64 ((rd_T55 t14007 x10_2).f0.f0), .int .i64 ((rd_T55 t14007 x10_2).f0.f1), .int .i64 ((rd_T55 t14007 x10_2).f0.f2), .slice A14032_3 ((rd_T55 t14007 x10_2).f0.f3).length c14032_3, .int .i64 ((rd_T55 t14007 x10_2).f1), .int .i64 ((rd_T55 t14007 x10_2).f2), .int .i64 ((rd_T55 t14007 x10_2).f3), .int .i64 ((rd_T55 t14007 x10_2).f4), .bool false]] (by rfl) rfl rfl (by (try simp only [List.map_toArray, List.map_cons, List.map_nil]); rfl) ?_
             with_reducible refine (impl_CoverImage.calls x14030000_2 x14030001_2 x14030002_2 _ _ x14030003_2 ((rd_T55 t14007 x10_2).f0.f0) ((rd_T55 t14007 x10_2).f0.f1) ((rd_T55 t14007 x10_2).f0.f2) _ _ ((rd_T55 t14007 x10_2).f0.f3) ((rd_T55 t14007 x10_2).f1) ((rd_T55 t14007 x10_2).f2) ((rd_T55 t14007 x10_2).f3) ((rd_T55 t14007 x10_2).f4) false t14033 t14034 t14035 t14036 true _ ?side1 ?side2 ?side3 ?side4 A72.out).mono ?_
             (case side1 => repeat (exact (Kd.Q_reads' HO_14030003.out).2.2))
             (case side2 => exact (Kd.Q_reads' HO_14030003.out).2.1)
             (case side3 => repeat (exact HR14032_3.out))
             (case side4 => exact HC14032_3.out)
             rintro e w76 ⟨v14037, rfl, ho0, hb⟩
             have HS4_ := (hb.cell (World.block_lt_of_cell? _ _ hHeld.2.2.2.2.1)).trans (hHeld.2.2.2.2.1)
             have HS5_ := (hb.cell (World.block_lt_of_cell? _ _ hHeld.2.2.2.2.2.1)).trans (hHeld.2.2.2.2.2.1)
             have HS6_ := (hb.cell (World.block_lt_of_cell? _ _ hHeld.2.2.2.2.2.2.1)).trans (hHeld.2.2.2.2.2.2.1)
             have HS7_ := (hb.cell (World.block_lt_of_cell? _ _ hHeld.2.2.2.2.2.2.2.1)).trans (hHeld.2.2.2.2.2.2.2.1)
             have HS8_ := (hb.cell (World.block_lt_of_cell? _ _ hHeld.2.2.2.2.2.2.2.2.1)).trans (hHeld.2.2.2.2.2.2.2.2.1)
             have HS9_ := (hb.cell (World.block_lt_of_cell? _ _ hHeld.2.2.2.2.2.2.2.2.2.1)).trans (hHeld.2.2.2.2.2.2.2.2.2.1)
             have HS10_ := (hb.cell (World.block_lt_of_cell? _ _ hHeld.2.2.2.2.2.2.2.2.2.2.1)).trans (hHeld.2.2.2.2.2.2.2.2.2.2.1)
             have HS11_ := (hb.cell (World.block_lt_of_cell? _ _ hHeld.2.2.2.2.2.2.2.2.2.2.2.1)).trans (hHeld.2.2.2.2.2.2.2.2.2.2.2.1)
             have HS12_ := (hb.cell (World.block_lt_of_cell? _ _ hHeld.2.2.2.2.2.2.2.2.2.2.2.2)).trans (hHeld.2.2.2.2.2.2.2.2.2.2.2.2)
             refine ⟨_, rfl, ?_⟩
             have n0_ := mk (Kd.N_elder' HO_4.out (Kd.R_base ho0) hb)
             have n1_ := mk (Kd.Q_elder' HO_14011003.out (Kd.R_base ho0) hb)
             have n2_ := mk (Kd.Q_elder' HO_14019003.out (Kd.R_base ho0) hb)
             have n3_ := mk (Kd.Q_elder' HO_14027003.out (Kd.R_base ho0) hb)
             have n4_ := mk (Kd.Q_elder' HO_14030003.out (Kd.R_base ho0) hb)
             have n5_ := mk (Kd.V_elder' HL14031_3.out (Kd.R_base ho0) hb)
             have n6_ := mk (Kd.V_elder' HL14032_3.out (Kd.R_base ho0) hb)
             have n7_ := mk (Kd.R_lower (Kd.R_new' (Kd.R_new' (Kd.R_new' (Kd.R_new' ho0 (Kd.Q_lt HO_14011003.out)) (Kd.Q_lt HO_14019003.out)) (Kd.Q_lt HO_14027003.out)) (Kd.Q_lt HO_14030003.out)) (below_size HB.out))
             have n8_ := mk (blk_below BK14010.out hb)
             have n9_ := mk (blk_below BK14018.out hb)
             have n10_ := mk (blk_below BK14026.out hb)
             have n11_ := mk (blk_below BK14029.out hb)
             have n12_ := mk (Kd.C_below HR14031_3.out hb)
             have n13_ := mk (Kd.C_below HR14032_3.out hb)
             have n14_ := mk (below_step HB.out hb)
             clear HO_4 HO_14011003 HO_14019003 HO_14027003 HO_14030003 HL14031_3 HL14032_3 BK14010 BK14018 BK14026 BK14029 HR14031_3 HR14032_3 HB
             revert n0_ n1_ n2_ n3_ n4_ n5_ n6_ n7_ n8_ n9_ n10_ n11_ n12_ n13_ n14_; intro HO_4 HO_14011003 HO_14019003 HO_14027003 HO_14030003 HL14031_3 HL14032_3 HO14038 BK14010 BK14018 BK14026 BK14029 HR14031_3 HR14032_3 HB
             (try clear hb)
             (try clear ho0)
             refine hK.out _ _ ⟨(blk_cell BK14029.out 0).trans rfl, (blk_cell BK14029.out 1).trans rfl, (blk_cell BK14029.out 2).trans rfl, (blk_cell BK14029.out 3).trans rfl, HS4_, HS5_, HS6_, HS7_, HS8_, HS9_, HS10_, HS11_, HS12_⟩ (fun hHeld => ?_)
             clear hK K
             refine norm_ (a' := ?_) ?_ ?_
             rotate_left
             ·show Act.put _ (some 72) _ = _
              simp only [Act.put, List.setIfInBounds_toArray, List.set_cons_zero, List.set_cons_succ, i64_w, i32_w]
              rfl
             refine pure_ (i := 6) (N := some 66) (v := ?_) (a' := ?_) #[true, true, true, true, true, true, true, false, false, false, false, false] rfl rfl (any_of HT_.out (by kernel_rfl)) (fun _ _ _ h => h) (Or.inl ⟨by rfl, ?_⟩) ?_ ?_
             rotate_left
             ·intro w'
              go_simp
              with_reducible rfl
             rotate_left
             ·simp only [Act.put, List.setIfInBounds_toArray, List.set_cons_zero, List.set_cons_succ, i64_w, i32_w]
              rfl
             refine pure_ (i := 7) (N := some 73) (v := ?_) (a' := ?_) #[true, true, true, true, true, true, true, true, false, false, false, false] rfl rfl (any_of HT_.out (by kernel_rfl)) (fun _ _ _ h => h) (Or.inl ⟨by rfl, ?_⟩) ?_ ?_
             rotate_left
             ·intro w'
              go_simp
              with_reducible rfl
             rotate_left
             ·simp only [Act.put, List.setIfInBounds_toArray, List.set_cons_zero, List.set_cons_succ, i64_w, i32_w]
              rfl
             refine pure_ (i := 8) (N := some 74) (v := ?_) (a' := ?_) #[true, true, true, true, true, true, true, true, true, false, false, false] rfl rfl (any_of HT_.out (by kernel_rfl)) (fun _ _ _ h => h) (Or.inl ⟨by rfl, ?_⟩) ?_ ?_
             rotate_left
             ·intro w'
              go_simp
              with_reducible rfl
             rotate_left
             ·simp only [Act.put, List.setIfInBounds_toArray, List.set_cons_zero, List.set_cons_succ, i64_w, i32_w]
              rfl
             refine one_ (i := 9) (N := some 11) #[true, true, true, true, true, true, true, true, true, true, false, false] rfl rfl (one_of HT_.out (by kernel_rfl)) (by decide) (fun K hK => ?_)
             refine box_step ?hg (N := 11) ?hd (cs := #[.int .i64 0, .int .i64 0, .int .i64 0, .slice none 0 0]) (t := 27) ?hr ?_; (case hd => rfl); (case hg => rfl); (case hr => (go_simp; done))
             intro gb14040 hg w77 hbox hb
             have HS4_ := (hb.cell (World.block_lt_of_cell? _ _ hHeld.2.2.2.2.1)).trans (hHeld.2.2.2.2.1)
             have HS5_ := (hb.cell (World.block_lt_of_cell? _ _ hHeld.2.2.2.2.2.1)).trans (hHeld.2.2.2.2.2.1)
             have HS6_ := (hb.cell (World.block_lt_of_cell? _ _ hHeld.2.2.2.2.2.2.1)).trans (hHeld.2.2.2.2.2.2.1)
             have HS7_ := (hb.cell (World.block_lt_of_cell? _ _ hHeld.2.2.2.2.2.2.2.1)).trans (hHeld.2.2.2.2.2.2.2.1)
             have HS8_ := (hb.cell (World.block_lt_of_cell? _ _ hHeld.2.2.2.2.2.2.2.2.1)).trans (hHeld.2.2.2.2.2.2.2.2.1)
             have HS9_ := (hb.cell (World.block_lt_of_cell? _ _ hHeld.2.2.2.2.2.2.2.2.2.1)).trans (hHeld.2.2.2.2.2.2.2.2.2.1)
             have HS10_ := (hb.cell (World.block_lt_of_cell? _ _ hHeld.2.2.2.2.2.2.2.2.2.2.1)).trans (hHeld.2.2.2.2.2.2.2.2.2.2.1)
             have HS11_ := (hb.cell (World.block_lt_of_cell? _ _ hHeld.2.2.2.2.2.2.2.2.2.2.2.1)).trans (hHeld.2.2.2.2.2.2.2.2.2.2.2.1)
             have HS12_ := (hb.cell (World.block_lt_of_cell? _ _ hHeld.2.2.2.2.2.2.2.2.2.2.2.2)).trans (hHeld.2.2.2.2.2.2.2.2.2.2.2.2)
             have n0_ := mk (Kd.N_below (Kd.N_elderB HO_4.out gb14040 (Nat.le_of_eq hg.symm)) hb)
             have n1_ := mk (Kd.Q_below HO_14011003.out hb)
             have n2_ := mk (Kd.Q_below HO_14019003.out hb)
             have n3_ := mk (Kd.Q_below HO_14027003.out hb)
             have n4_ := mk (Kd.Q_below HO_14030003.out hb)
             have n5_ := mk (Kd.V_below (Kd.V_elderB HL14031_3.out gb14040 (Nat.le_of_eq hg.symm)) hb)
             have n6_ := mk (Kd.V_below (Kd.V_elderB HL14032_3.out gb14040 (Nat.le_of_eq hg.symm)) hb)
             have n7_ := mk (Kd.R_below HO14038.out hb)
             have n8_ := mk (blk_below BK14010.out hb)
             have n9_ := mk (blk_below BK14018.out hb)
             have n10_ := mk (blk_below BK14026.out hb)
             have n11_ := mk (blk_below BK14029.out hb)
             have n12_ := mk (Kd.C_below HR14031_3.out hb)
             have n13_ := mk (Kd.C_below HR14032_3.out hb)
             have n14_ := mk (below_step HB.out hb)
             have n15_ := mk (hbox)
             have n16_ := mk ((by rw [hg]; exact (below_size HB.out) : w.heap.size ≤ gb14040))
             have n17_ := mk ((by rw [hg]; exact (below_size HB.out) : w.heap.size ≤ gb14040))
             have n18_ := mk ((by rw [hg]; exact Nat.ne_of_lt (blk_lt BK14010.out) : gb14010 ≠ gb14040))
             have n19_ := mk n18_.out.symm
             have n20_ := mk ((by rw [hg]; exact Nat.ne_of_lt (blk_lt BK14018.out) : gb14018 ≠ gb14040))
             have n21_ := mk n20_.out.symm
             have n22_ := mk ((by rw [hg]; exact Nat.ne_of_lt (blk_lt BK14026.out) : gb14026 ≠ gb14040))
             have n23_ := mk n22_.out.symm
             have n24_ := mk ((by rw [hg]; exact Nat.ne_of_lt (blk_lt BK14029.out) : gb14029 ≠ gb14040))
             have n25_ := mk n24_.out.symm
             clear HO_4 HO_14011003 HO_14019003 HO_14027003 HO_14030003 HL14031_3 HL14032_3 HO14038 BK14010 BK14018 BK14026 BK14029 HR14031_3 HR14032_3 HB
             revert n0_ n1_ n2_ n3_ n4_ n5_ n6_ n7_ n8_ n9_ n10_ n11_ n12_ n13_ n14_ n15_ n16_ n17_ n18_ n19_ n20_ n21_ n22_ n23_ n24_ n25_; intro HO_4 HO_14011003 HO_14019003 HO_14027003 HO_14030003 HL14031_3 HL14032_3 HO14038 BK14010 BK14018 BK14026 BK14029 HR14031_3 HR14032_3 HB BK14040 GW14040 GE14040 NB14010_14040 NB14040_14010 NB14018_14040 NB14040_14018 NB14026_14040 NB14040_14026 NB14029_14040 NB14040_14029
             clear hb hbox hg
             refine hK.out _ _ ⟨(blk_cell BK14029.out 0).trans rfl, (blk_cell BK14029.out 1).trans rfl, (blk_cell BK14029.out 2).trans rfl, (blk_cell BK14029.out 3).trans rfl, HS4_, HS5_, HS6_, HS7_, HS8_, HS9_, HS10_, HS11_, HS12_⟩ (fun hHeld => ?_)
             clear hK K
             refine norm_ (a' := ?_) ?_ ?_
             rotate_left
             ·show Act.put _ (some 11) _ = _
              simp only [Act.put, List.setIfInBounds_toArray, List.set_cons_zero, List.set_cons_succ, i64_w, i32_w]
              rfl
             exact norm_ (by simp only [putAll, Act.put, List.setIfInBounds_toArray, List.set_cons_zero, List.set_cons_succ]) (hCont (v14037, gb14040) _ ⟨hHeld, (by exact Kd.V_mono HL14031_3.out (fun _ hk => ⟨hk.1.2, ⟨hk.1.1.1.1, ⟨hk.1.1.1.2.1, ⟨hk.1.1.1.2.2.1, ⟨hk.1.1.1.2.2.2.1, ⟨hk.1.1.2, ⟨hk.1.1.1.2.2.2.2.1, ⟨hk.1.1.1.2.2.2.2.2.1, ⟨hk.1.1.1.2.2.2.2.2.2.1, ⟨hk.1.1.1.2.2.2.2.2.2.2, hk.2⟩⟩⟩⟩⟩⟩⟩⟩⟩⟩)), (by exact Kd.V_mono HL14032_3.out (fun _ hk => ⟨hk.1.2, ⟨hk.1.1.1.1, ⟨hk.1.1.1.2.1, ⟨hk.1.1.1.2.2.1, ⟨hk.1.1.1.2.2.2.1, ⟨hk.1.1.2, ⟨hk.1.1.1.2.2.2.2.1, ⟨hk.1.1.1.2.2.2.2.2.1, ⟨hk.1.1.1.2.2.2.2.2.2.1, ⟨hk.1.1.1.2.2.2.2.2.2.2, hk.2⟩⟩⟩⟩⟩⟩⟩⟩⟩⟩)), (by exact Kd.R_mono HO14038.out (fun _ hk => ⟨hk.1.1.1.2, ⟨hk.1.1.2, ⟨hk.1.2, hk.2⟩⟩⟩)), (by exact Kd.Q_mono HO_14011003.out (fun _ hk => ⟨hk.2, ⟨hk.1.1, hk.1.2⟩⟩)), (by exact Kd.Q_mono HO_14019003.out (fun _ hk => ⟨hk.2, ⟨hk.1.1, ⟨hk.1.2.1, hk.1.2.2⟩⟩⟩)), (by exact Kd.Q_mono HO_14027003.out (fun _ hk => ⟨hk.2, ⟨hk.1.1, ⟨hk.1.2.1, hk.1.2.2⟩⟩⟩)), (by exact Kd.Q_mono HO_14030003.out (fun _ hk => ⟨hk.2, ⟨hk.1.1, hk.1.2⟩⟩)), (by exact Kd.N_mono HO_4.out (fun _ hk => ⟨hk.1.2, ⟨hk.1.1.1, ⟨hk.1.1.2.1, ⟨hk.1.1.2.2.1, ⟨hk.1.1.2.2.2.1, ⟨hk.1.1.2.2.2.2.1, ⟨hk.1.1.2.2.2.2.2.1, ⟨hk.1.1.2.2.2.2.2.2.1, ⟨hk.1.1.2.2.2.2.2.2.2, hk.2⟩⟩⟩⟩⟩⟩⟩⟩⟩)), BK14010.out, BK14018.out, BK14026.out, BK14029.out, BK14040.out, GW14040.out, GE14040.out, NB14010_14040.out, NB14040_14010.out, NB14018_14040.out, NB14040_14018.out, NB14026_14040.out, NB14040_14026.out, NB14029_14040.out, NB14040_14029.out, (HB.out)⟩)
            ·skip
             refine box_step ?hg (N := 11) ?hd (cs := #[.int .i64 0, .int .i64 0, .int .i64 0, .slice none 0 0]) (t := 27) ?hr ?_; (case hd => rfl); (case hg => rfl); (case hr => (go_simp; done))
             intro gb14040 hg w76 hbox hb
             have HS4_ := (hb.cell (World.block_lt_of_cell? _ _ hHeld.2.2.2.2.1)).trans (hHeld.2.2.2.2.1)
             have HS5_ := (hb.cell (World.block_lt_of_cell? _ _ hHeld.2.2.2.2.2.1)).trans (hHeld.2.2.2.2.2.1)
             have HS6_ := (hb.cell (World.block_lt_of_cell? _ _ hHeld.2.2.2.2.2.2.1)).trans (hHeld.2.2.2.2.2.2.1)
             have HS7_ := (hb.cell (World.block_lt_of_cell? _ _ hHeld.2.2.2.2.2.2.2.1)).trans (hHeld.2.2.2.2.2.2.2.1)
             have HS8_ := (hb.cell (World.block_lt_of_cell? _ _ hHeld.2.2.2.2.2.2.2.2.1)).trans (hHeld.2.2.2.2.2.2.2.2.1)
             have HS9_ := (hb.cell (World.block_lt_of_cell? _ _ hHeld.2.2.2.2.2.2.2.2.2.1)).trans (hHeld.2.2.2.2.2.2.2.2.2.1)
             have HS10_ := (hb.cell (World.block_lt_of_cell? _ _ hHeld.2.2.2.2.2.2.2.2.2.2.1)).trans (hHeld.2.2.2.2.2.2.2.2.2.2.1)
             have HS11_ := (hb.cell (World.block_lt_of_cell? _ _ hHeld.2.2.2.2.2.2.2.2.2.2.2.1)).trans (hHeld.2.2.2.2.2.2.2.2.2.2.2.1)
             have HS12_ := (hb.cell (World.block_lt_of_cell? _ _ hHeld.2.2.2.2.2.2.2.2.2.2.2.2)).trans (hHeld.2.2.2.2.2.2.2.2.2.2.2.2)
             have n0_ := mk (Kd.N_below (Kd.N_elderB HO_4.out gb14040 (Nat.le_of_eq hg.symm)) hb)
             have n1_ := mk (Kd.Q_below HO_14011003.out hb)
             have n2_ := mk (Kd.Q_below HO_14019003.out hb)
             have n3_ := mk (Kd.Q_below HO_14027003.out hb)
             have n4_ := mk (Kd.Q_below HO_14030003.out hb)
             have n5_ := mk (Kd.V_below (Kd.V_elderB HL14031_3.out gb14040 (Nat.le_of_eq hg.symm)) hb)
             have n6_ := mk (Kd.V_below (Kd.V_elderB HL14032_3.out gb14040 (Nat.le_of_eq hg.symm)) hb)
             have n7_ := mk (blk_below BK14010.out hb)
             have n8_ := mk (blk_below BK14018.out hb)
             have n9_ := mk (blk_below BK14026.out hb)
             have n10_ := mk (blk_below BK14029.out hb)
             have n11_ := mk (Kd.C_below HR14031_3.out hb)
             have n12_ := mk (Kd.C_below HR14032_3.out hb)
             have n13_ := mk (below_step HB.out hb)
             have n14_ := mk (hbox)
             have n15_ := mk ((by rw [hg]; exact (below_size HB.out) : w.heap.size ≤ gb14040))
             have n16_ := mk ((by rw [hg]; exact (below_size HB.out) : w.heap.size ≤ gb14040))
             have n17_ := mk ((by rw [hg]; exact Nat.ne_of_lt (blk_lt BK14010.out) : gb14010 ≠ gb14040))
             have n18_ := mk n17_.out.symm
             have n19_ := mk ((by rw [hg]; exact Nat.ne_of_lt (blk_lt BK14018.out) : gb14018 ≠ gb14040))
             have n20_ := mk n19_.out.symm
             have n21_ := mk ((by rw [hg]; exact Nat.ne_of_lt (blk_lt BK14026.out) : gb14026 ≠ gb14040))
             have n22_ := mk n21_.out.symm
             have n23_ := mk ((by rw [hg]; exact Nat.ne_of_lt (blk_lt BK14029.out) : gb14029 ≠ gb14040))
             have n24_ := mk n23_.out.symm
             clear HO_4 HO_14011003 HO_14019003 HO_14027003 HO_14030003 HL14031_3 HL14032_3 BK14010 BK14018 BK14026 BK14029 HR14031_3 HR14032_3 HB
             revert n0_ n1_ n2_ n3_ n4_ n5_ n6_ n7_ n8_ n9_ n10_ n11_ n12_ n13_ n14_ n15_ n16_ n17_ n18_ n19_ n20_ n21_ n22_ n23_ n24_; intro HO_4 HO_14011003 HO_14019003 HO_14027003 HO_14030003 HL14031_3 HL14032_3 BK14010 BK14018 BK14026 BK14029 HR14031_3 HR14032_3 HB BK14040 GW14040 GE14040 NB14010_14040 NB14040_14010 NB14018_14040 NB14040_14018 NB14026_14040 NB14040_14026 NB14029_14040 NB14040_14029
             clear hb hbox hg
             refine hK.out _ _ ⟨(blk_cell BK14029.out 0).trans rfl, (blk_cell BK14029.out 1).trans rfl, (blk_cell BK14029.out 2).trans rfl, (blk_cell BK14029.out 3).trans rfl, HS4_, HS5_, HS6_, HS7_, HS8_, HS9_, HS10_, HS11_, HS12_⟩ (fun hHeld => ?_)
             clear hK K
             refine norm_ (a' := ?_) ?_ ?_
             rotate_left
             ·show Act.put _ (some 11) _ = _
              simp only [Act.put, List.setIfInBounds_toArray, List.set_cons_zero, List.set_cons_succ, i64_w, i32_w]
              rfl
             refine one_ (i := 5) (N := some 72) #[true, true, true, true, true, true, false, false, false, true, false, false] rfl rfl (one_of HT_.out (by kernel_rfl)) (by decide) (fun K hK => ?_)
             refine goes_ Try.func49 (by kernel_rfl) rfl #[.agg #[.int .i64 x14030000_2, .int .i64 x14030001_2, .int .i64 x14030002_2, .slice Ao74 x14030003_2.length co74], .agg #[.int .i64 ((rd_T55 t14007 x10_2).f0.f0), .int .i64 ((rd_T55 t14007 x10_2).f0.f1), .int .i64 ((rd_T55 t14007 x10_2).f0.f2), .slice A14032_3 ((rd_T55 t14007 x10_2).f0.f3).length c14032_3, .int .i64 ((rd_T55 t14007 x10_2).f1), .int .i64 ((rd_T55 t14007 x10_2).f2), .int .i64 ((rd_T55 t14007 x10_2).f3), .int .i64 ((rd_T55 t14007 x10_2).f4), .bool false]] (by rfl) rfl rfl (by (try simp only [List.map_toArray, List.map_cons, List.map_nil]); rfl) ?_
             with_reducible refine (impl_CoverImage.calls x14030000_2 x14030001_2 x14030002_2 _ _ x14030003_2 ((rd_T55 t14007 x10_2).f0.f0) ((rd_T55 t14007 x10_2).f0.f1) ((rd_T55 t14007 x10_2).f0.f2) _ _ ((rd_T55 t14007 x10_2).f0.f3) ((rd_T55 t14007 x10_2).f1) ((rd_T55 t14007 x10_2).f2) ((rd_T55 t14007 x10_2).f3) ((rd_T55 t14007 x10_2).f4) false t14033 t14034 t14035 t14036 true _ ?side1 ?side2 ?side3 ?side4 A72.out).mono ?_
             (case side1 => repeat (exact (Kd.Q_reads' HO_14030003.out).2.2))
             (case side2 => exact (Kd.Q_reads' HO_14030003.out).2.1)
             (case side3 => repeat (exact HR14032_3.out))
             (case side4 => exact HC14032_3.out)
             rintro e w77 ⟨v14037, rfl, ho0, hb⟩
             have HS4_ := (hb.cell (World.block_lt_of_cell? _ _ hHeld.2.2.2.2.1)).trans (hHeld.2.2.2.2.1)
             have HS5_ := (hb.cell (World.block_lt_of_cell? _ _ hHeld.2.2.2.2.2.1)).trans (hHeld.2.2.2.2.2.1)
             have HS6_ := (hb.cell (World.block_lt_of_cell? _ _ hHeld.2.2.2.2.2.2.1)).trans (hHeld.2.2.2.2.2.2.1)
             have HS7_ := (hb.cell (World.block_lt_of_cell? _ _ hHeld.2.2.2.2.2.2.2.1)).trans (hHeld.2.2.2.2.2.2.2.1)
             have HS8_ := (hb.cell (World.block_lt_of_cell? _ _ hHeld.2.2.2.2.2.2.2.2.1)).trans (hHeld.2.2.2.2.2.2.2.2.1)
             have HS9_ := (hb.cell (World.block_lt_of_cell? _ _ hHeld.2.2.2.2.2.2.2.2.2.1)).trans (hHeld.2.2.2.2.2.2.2.2.2.1)
             have HS10_ := (hb.cell (World.block_lt_of_cell? _ _ hHeld.2.2.2.2.2.2.2.2.2.2.1)).trans (hHeld.2.2.2.2.2.2.2.2.2.2.1)
             have HS11_ := (hb.cell (World.block_lt_of_cell? _ _ hHeld.2.2.2.2.2.2.2.2.2.2.2.1)).trans (hHeld.2.2.2.2.2.2.2.2.2.2.2.1)
             have HS12_ := (hb.cell (World.block_lt_of_cell? _ _ hHeld.2.2.2.2.2.2.2.2.2.2.2.2)).trans (hHeld.2.2.2.2.2.2.2.2.2.2.2.2)
             refine ⟨_, rfl, ?_⟩
             have n0_ := mk (Kd.N_elder' HO_4.out (Kd.R_base ho0) hb)
             have n1_ := mk (Kd.Q_elder' HO_14011003.out (Kd.R_base ho0) hb)
             have n2_ := mk (Kd.Q_elder' HO_14019003.out (Kd.R_base ho0) hb)
             have n3_ := mk (Kd.Q_elder' HO_14027003.out (Kd.R_base ho0) hb)
             have n4_ := mk (Kd.Q_elder' HO_14030003.out (Kd.R_base ho0) hb)
             have n5_ := mk (Kd.V_elder' HL14031_3.out (Kd.R_base ho0) hb)
             have n6_ := mk (Kd.V_elder' HL14032_3.out (Kd.R_base ho0) hb)
             have n7_ := mk (Kd.R_lower (Kd.R_new' (Kd.R_new' (Kd.R_new' (Kd.R_new' ho0 (Kd.Q_lt HO_14011003.out)) (Kd.Q_lt HO_14019003.out)) (Kd.Q_lt HO_14027003.out)) (Kd.Q_lt HO_14030003.out)) (below_size HB.out))
             have n8_ := mk (blk_below BK14010.out hb)
             have n9_ := mk (blk_below BK14018.out hb)
             have n10_ := mk (blk_below BK14026.out hb)
             have n11_ := mk (blk_below BK14029.out hb)
             have n12_ := mk (Kd.C_below HR14031_3.out hb)
             have n13_ := mk (Kd.C_below HR14032_3.out hb)
             have n14_ := mk (blk_below BK14040.out hb)
             have n15_ := mk (below_step HB.out hb)
             clear HO_4 HO_14011003 HO_14019003 HO_14027003 HO_14030003 HL14031_3 HL14032_3 BK14010 BK14018 BK14026 BK14029 HR14031_3 HR14032_3 BK14040 HB
             revert n0_ n1_ n2_ n3_ n4_ n5_ n6_ n7_ n8_ n9_ n10_ n11_ n12_ n13_ n14_ n15_; intro HO_4 HO_14011003 HO_14019003 HO_14027003 HO_14030003 HL14031_3 HL14032_3 HO14038 BK14010 BK14018 BK14026 BK14029 HR14031_3 HR14032_3 BK14040 HB
             (try clear hb)
             (try clear ho0)
             refine hK.out _ _ ⟨(blk_cell BK14029.out 0).trans rfl, (blk_cell BK14029.out 1).trans rfl, (blk_cell BK14029.out 2).trans rfl, (blk_cell BK14029.out 3).trans rfl, HS4_, HS5_, HS6_, HS7_, HS8_, HS9_, HS10_, HS11_, HS12_⟩ (fun hHeld => ?_)
             clear hK K
             refine norm_ (a' := ?_) ?_ ?_
             rotate_left
             ·show Act.put _ (some 72) _ = _
              simp only [Act.put, List.setIfInBounds_toArray, List.set_cons_zero, List.set_cons_succ, i64_w, i32_w]
              rfl
             refine pure_ (i := 6) (N := some 66) (v := ?_) (a' := ?_) #[true, true, true, true, true, true, true, false, false, true, false, false] rfl rfl (any_of HT_.out (by kernel_rfl)) (fun _ _ _ h => h) (Or.inl ⟨by rfl, ?_⟩) ?_ ?_
             rotate_left
             ·intro w'
              go_simp
              with_reducible rfl
             rotate_left
             ·simp only [Act.put, List.setIfInBounds_toArray, List.set_cons_zero, List.set_cons_succ, i64_w, i32_w]
              rfl
             refine pure_ (i := 7) (N := some 73) (v := ?_) (a' := ?_) #[true, true, true, true, true, true, true, true, false, true, false, false] rfl rfl (any_of HT_.out (by kernel_rfl)) (fun _ _ _ h => h) (Or.inl ⟨by rfl, ?_⟩) ?_ ?_
             rotate_left
             ·intro w'
              go_simp
              with_reducible rfl
             rotate_left
             ·simp only [Act.put, List.setIfInBounds_toArray, List.set_cons_zero, List.set_cons_succ, i64_w, i32_w]
              rfl
             refine pure_ (i := 8) (N := some 74) (v := ?_) (a' := ?_) #[true, true, true, true, true, true, true, true, true, true, false, false] rfl rfl (any_of HT_.out (by kernel_rfl)) (fun _ _ _ h => h) (Or.inl ⟨by rfl, ?_⟩) ?_ ?_
             rotate_left
             ·intro w'
              go_simp
              with_reducible rfl
             rotate_left
             ·simp only [Act.put, List.setIfInBounds_toArray, List.set_cons_zero, List.set_cons_succ, i64_w, i32_w]
              rfl
             exact norm_ (by simp only [putAll, Act.put, List.setIfInBounds_toArray, List.set_cons_zero, List.set_cons_succ]) (hCont (v14037, gb14040) _ ⟨hHeld, (by exact Kd.V_mono HL14031_3.out (fun _ hk => ⟨hk.2, ⟨hk.1.1.1.1, ⟨hk.1.1.1.2.1, ⟨hk.1.1.1.2.2.1, ⟨hk.1.1.1.2.2.2.1, ⟨hk.1.1.2, ⟨hk.1.1.1.2.2.2.2.1, ⟨hk.1.1.1.2.2.2.2.2.1, ⟨hk.1.1.1.2.2.2.2.2.2.1, ⟨hk.1.1.1.2.2.2.2.2.2.2, hk.1.2⟩⟩⟩⟩⟩⟩⟩⟩⟩⟩)), (by exact Kd.V_mono HL14032_3.out (fun _ hk => ⟨hk.2, ⟨hk.1.1.1.1, ⟨hk.1.1.1.2.1, ⟨hk.1.1.1.2.2.1, ⟨hk.1.1.1.2.2.2.1, ⟨hk.1.1.2, ⟨hk.1.1.1.2.2.2.2.1, ⟨hk.1.1.1.2.2.2.2.2.1, ⟨hk.1.1.1.2.2.2.2.2.2.1, ⟨hk.1.1.1.2.2.2.2.2.2.2, hk.1.2⟩⟩⟩⟩⟩⟩⟩⟩⟩⟩)), (by exact Kd.R_mono HO14038.out (fun _ hk => ⟨hk.1.1.1.2, ⟨hk.1.1.2, ⟨hk.1.2, hk.2⟩⟩⟩)), (by exact Kd.Q_mono HO_14011003.out (fun _ hk => ⟨hk.2, ⟨hk.1.1, hk.1.2⟩⟩)), (by exact Kd.Q_mono HO_14019003.out (fun _ hk => ⟨hk.2, ⟨hk.1.1, ⟨hk.1.2.1, hk.1.2.2⟩⟩⟩)), (by exact Kd.Q_mono HO_14027003.out (fun _ hk => ⟨hk.2, ⟨hk.1.1, ⟨hk.1.2.1, hk.1.2.2⟩⟩⟩)), (by exact Kd.Q_mono HO_14030003.out (fun _ hk => ⟨hk.2, ⟨hk.1.1, hk.1.2⟩⟩)), (by exact Kd.N_mono HO_4.out (fun _ hk => ⟨hk.2, ⟨hk.1.1.1, ⟨hk.1.1.2.1, ⟨hk.1.1.2.2.1, ⟨hk.1.1.2.2.2.1, ⟨hk.1.1.2.2.2.2.1, ⟨hk.1.1.2.2.2.2.2.1, ⟨hk.1.1.2.2.2.2.2.2.1, ⟨hk.1.1.2.2.2.2.2.2.2, hk.1.2⟩⟩⟩⟩⟩⟩⟩⟩⟩)), BK14010.out, BK14018.out, BK14026.out, BK14029.out, BK14040.out, GW14040.out, GE14040.out, NB14010_14040.out, NB14040_14010.out, NB14018_14040.out, NB14040_14018.out, NB14026_14040.out, NB14040_14026.out, NB14029_14040.out, NB14040_14029.out, (HB.out)⟩)
           rintro ⟨v14037, gb14040⟩ w78 ⟨hS_, h0_, h1_, h2_, h3_, h4_, h5_, h6_, h7_, h8_, h9_, h10_, h11_, h12_, h13_, h14_, h15_, h16_, h17_, h18_, h19_, h20_, h21_, h22_, h23_⟩
           have n0_ : Aside0 (Kd.V (Kd.int .i64) 3 w78 w.heap.size (fun k_ => some k_ ≠ (v14037 : Value).ownBlock ∧ some k_ ≠ (.slice Ao10 t14004.length co10 : Value).ownBlock ∧ some k_ ≠ (.slice Ao16 t14014.length co16 : Value).ownBlock ∧ some k_ ≠ (.slice Ao23 t14022.length co23 : Value).ownBlock ∧ some k_ ≠ (.slice Ao74 x14030003_2.length co74 : Value).ownBlock ∧ some k_ ≠ (.slice (some ad14031) t14007.length co11 : Value).ownBlock ∧ k_ ≠ gb14010 ∧ k_ ≠ gb14018 ∧ k_ ≠ gb14026 ∧ k_ ≠ gb14029 ∧ k_ ≠ gb14040) (.slice A14031_3 ((rd_T55 t14007 x10_2).f0.f3).length c14031_3) ((rd_T55 t14007 x10_2).f0.f3)) := ⟨h0_⟩
           have n1_ : Aside0 (Kd.V (Kd.int .i64) 3 w78 w.heap.size (fun k_ => some k_ ≠ (v14037 : Value).ownBlock ∧ some k_ ≠ (.slice Ao10 t14004.length co10 : Value).ownBlock ∧ some k_ ≠ (.slice Ao16 t14014.length co16 : Value).ownBlock ∧ some k_ ≠ (.slice Ao23 t14022.length co23 : Value).ownBlock ∧ some k_ ≠ (.slice Ao74 x14030003_2.length co74 : Value).ownBlock ∧ some k_ ≠ (.slice (some ad14031) t14007.length co11 : Value).ownBlock ∧ k_ ≠ gb14010 ∧ k_ ≠ gb14018 ∧ k_ ≠ gb14026 ∧ k_ ≠ gb14029 ∧ k_ ≠ gb14040) (.slice A14032_3 ((rd_T55 t14007 x10_2).f0.f3).length c14032_3) ((rd_T55 t14007 x10_2).f0.f3)) := ⟨h1_⟩
           have n2_ : Aside0 (Kd.R (Kd.int .i64) 3 w78 w.heap.size (fun k_ => some k_ ≠ (.slice Ao10 t14004.length co10 : Value).ownBlock ∧ some k_ ≠ (.slice Ao16 t14014.length co16 : Value).ownBlock ∧ some k_ ≠ (.slice Ao23 t14022.length co23 : Value).ownBlock ∧ some k_ ≠ (.slice Ao74 x14030003_2.length co74 : Value).ownBlock) v14037 t14036) := ⟨h2_⟩
           have n3_ : Aside0 (Kd.Q (Kd.int .i64) 3 w78 w.heap.size (fun k_ => some k_ ≠ (v14037 : Value).ownBlock ∧ some k_ ≠ (.slice Ao16 t14014.length co16 : Value).ownBlock ∧ some k_ ≠ (.slice Ao23 t14022.length co23 : Value).ownBlock) (.slice Ao10 t14004.length co10) t14004) := ⟨h3_⟩
           have n4_ : Aside0 (Kd.Q (Kd.int .i64) 3 w78 w.heap.size (fun k_ => some k_ ≠ (v14037 : Value).ownBlock ∧ some k_ ≠ (.slice Ao10 t14004.length co10 : Value).ownBlock ∧ some k_ ≠ (.slice Ao23 t14022.length co23 : Value).ownBlock ∧ some k_ ≠ (.slice Ao74 x14030003_2.length co74 : Value).ownBlock) (.slice Ao16 t14014.length co16) t14014) := ⟨h4_⟩
           have n5_ : Aside0 (Kd.Q (Kd.int .i64) 3 w78 w.heap.size (fun k_ => some k_ ≠ (v14037 : Value).ownBlock ∧ some k_ ≠ (.slice Ao10 t14004.length co10 : Value).ownBlock ∧ some k_ ≠ (.slice Ao16 t14014.length co16 : Value).ownBlock ∧ some k_ ≠ (.slice Ao74 x14030003_2.length co74 : Value).ownBlock) (.slice Ao23 t14022.length co23) t14022) := ⟨h5_⟩
           have n6_ : Aside0 (Kd.Q (Kd.int .i64) 3 w78 w.heap.size (fun k_ => some k_ ≠ (v14037 : Value).ownBlock ∧ some k_ ≠ (.slice Ao16 t14014.length co16 : Value).ownBlock ∧ some k_ ≠ (.slice Ao23 t14022.length co23 : Value).ownBlock) (.slice Ao74 x14030003_2.length co74) x14030003_2) := ⟨h6_⟩
           have n7_ : Aside0 (Kd.N k55 55 w78 w.heap.size (fun k_ => some k_ ≠ (v14037 : Value).ownBlock ∧ some k_ ≠ (.slice Ao10 t14004.length co10 : Value).ownBlock ∧ some k_ ≠ (.slice Ao16 t14014.length co16 : Value).ownBlock ∧ some k_ ≠ (.slice Ao23 t14022.length co23 : Value).ownBlock ∧ some k_ ≠ (.slice Ao74 x14030003_2.length co74 : Value).ownBlock ∧ k_ ≠ gb14010 ∧ k_ ≠ gb14018 ∧ k_ ≠ gb14026 ∧ k_ ≠ gb14029 ∧ k_ ≠ gb14040) (.slice (some ad14031) t14007.length co11) t14007) := ⟨h7_⟩
           have n8_ : Aside0 (w78.heap[gb14010]? = some (.cells #[.int .i64 t14001, .int .i64 t14002, .int .i64 t14003, .slice Ao10 t14004.length co10] 27 (0, 0))) := ⟨h8_⟩
           have n9_ : Aside0 (w78.heap[gb14018]? = some (.cells #[.int .i64 t14011, .int .i64 t14012, .int .i64 t14013, .slice Ao16 t14014.length co16] 27 (0, 0))) := ⟨h9_⟩
           have n10_ : Aside0 (w78.heap[gb14026]? = some (.cells #[.int .i64 t14019, .int .i64 t14020, .int .i64 t14021, .slice Ao23 t14022.length co23] 27 (0, 0))) := ⟨h10_⟩
           have n11_ : Aside0 (w78.heap[gb14029]? = some (.cells #[.int .i64 x14030000_2, .int .i64 x14030001_2, .int .i64 x14030002_2, .slice Ao74 x14030003_2.length co74] 27 (0, 0))) := ⟨h11_⟩
           have n12_ : Aside0 (w78.heap[gb14040]? = some (.cells #[.int .i64 0, .int .i64 0, .int .i64 0, .slice none 0 0] 27 (0, 0))) := ⟨h12_⟩
           have n13_ : Aside0 (w.heap.size ≤ gb14040) := ⟨h13_⟩
           have n14_ : Aside0 (w.heap.size ≤ gb14040) := ⟨h14_⟩
           have n15_ : Aside0 (gb14010 ≠ gb14040) := ⟨h15_⟩
           have n16_ : Aside0 (gb14040 ≠ gb14010) := ⟨h16_⟩
           have n17_ : Aside0 (gb14018 ≠ gb14040) := ⟨h17_⟩
           have n18_ : Aside0 (gb14040 ≠ gb14018) := ⟨h18_⟩
           have n19_ : Aside0 (gb14026 ≠ gb14040) := ⟨h19_⟩
           have n20_ : Aside0 (gb14040 ≠ gb14026) := ⟨h20_⟩
           have n21_ : Aside0 (gb14029 ≠ gb14040) := ⟨h21_⟩
           have n22_ : Aside0 (gb14040 ≠ gb14029) := ⟨h22_⟩
           have n23_ : Aside0 (Below w.heap.size w w78) := ⟨h23_⟩
           clear HO_4 HO_14011003 HO_14019003 HO_14027003 HO_14030003 HL14031_3 BK14010 BK14018 BK14026 BK14029 HR14031_3 HB h0_ h1_ h2_ h3_ h4_ h5_ h6_ h7_ h8_ h9_ h10_ h11_ h12_ h13_ h14_ h15_ h16_ h17_ h18_ h19_ h20_ h21_ h22_ h23_
           revert n0_ n1_ n2_ n3_ n4_ n5_ n6_ n7_ n8_ n9_ n10_ n11_ n12_ n13_ n14_ n15_ n16_ n17_ n18_ n19_ n20_ n21_ n22_ n23_; intro HL14031_3 HL14032_3 HO14038 HO_14011003 HO_14019003 HO_14027003 HO_14030003 HO_4 BK14010 BK14018 BK14026 BK14029 BK14040 GW14040 GE14040 NB14010_14040 NB14040_14010 NB14018_14040 NB14040_14018 NB14026_14040 NB14040_14026 NB14029_14040 NB14040_14029 HB
           have hHeld : w78.cell? ⟨gb14029, 0, none⟩ = some (.int .i64 x14030000_2) ∧ w78.cell? ⟨gb14029, 1, none⟩ = some (.int .i64 x14030001_2) ∧ w78.cell? ⟨gb14029, 2, none⟩ = some (.int .i64 x14030002_2) ∧ w78.cell? ⟨gb14029, 3, none⟩ = some (.slice Ao74 x14030003_2.length co74) ∧ w78.cell? (ad14031.add ((x10_2).toNat * 9)) = some (.int .i64 ((rd_T55 t14007 x10_2).f0.f0)) ∧ w78.cell? ⟨(ad14031.add ((x10_2).toNat * 9)).block, (ad14031.add ((x10_2).toNat * 9)).off + 1, none⟩ = some (.int .i64 ((rd_T55 t14007 x10_2).f0.f1)) ∧ w78.cell? ⟨(ad14031.add ((x10_2).toNat * 9)).block, (ad14031.add ((x10_2).toNat * 9)).off + 2, none⟩ = some (.int .i64 ((rd_T55 t14007 x10_2).f0.f2)) ∧ w78.cell? ⟨(ad14031.add ((x10_2).toNat * 9)).block, (ad14031.add ((x10_2).toNat * 9)).off + 3, none⟩ = some (.slice A14032_3 ((rd_T55 t14007 x10_2).f0.f3).length c14032_3) ∧ w78.cell? ⟨(ad14031.add ((x10_2).toNat * 9)).block, (ad14031.add ((x10_2).toNat * 9)).off + 4, none⟩ = some (.int .i64 ((rd_T55 t14007 x10_2).f1)) ∧ w78.cell? ⟨(ad14031.add ((x10_2).toNat * 9)).block, (ad14031.add ((x10_2).toNat * 9)).off + 5, none⟩ = some (.int .i64 ((rd_T55 t14007 x10_2).f2)) ∧ w78.cell? ⟨(ad14031.add ((x10_2).toNat * 9)).block, (ad14031.add ((x10_2).toNat * 9)).off + 6, none⟩ = some (.int .i64 ((rd_T55 t14007 x10_2).f3)) ∧ w78.cell? ⟨(ad14031.add ((x10_2).toNat * 9)).block, (ad14031.add ((x10_2).toNat * 9)).off + 7, none⟩ = some (.int .i64 ((rd_T55 t14007 x10_2).f4)) ∧ w78.cell? ⟨(ad14031.add ((x10_2).toNat * 9)).block, (ad14031.add ((x10_2).toNat * 9)).off + 8, none⟩ = some (.bool false) := hS_
           obtain ⟨Ao82, co82, eo82⟩ := Kd.R_slice HO14038.out
           (subst eo82)
           refine norm_ (a' := ?_) ?_ ?_
           rotate_left
           ·simp only [putAll, Act.put, List.setIfInBounds_toArray, List.set_cons_zero, List.set_cons_succ]
            rfl
           refine one_ (i := 10) (N := none) #[true, true, true, true, true, true, true, true, true, true, true, false] rfl rfl (one_of HT_.out (by kernel_rfl)) (by decide) (fun K hK => ?_)
           have hs79 : w78.cell? ⟨gb14040, 0, none⟩ = some (.int .i64 0) := (blk_cell BK14040.out 0).trans rfl
           have hfs79 := blk_frozen BK14040.out 0
           have hns79_0 := NB14010_14040.out
           have hns79_1 := NB14018_14040.out
           have hns79_2 := NB14026_14040.out
           have hns79_3 := NB14029_14040.out
           have hms79_0 := NB14040_14010.out
           have hms79_1 := NB14040_14018.out
           have hms79_2 := NB14040_14026.out
           have hms79_3 := NB14040_14029.out
           have hs80 : w78.cell? ⟨gb14040, 1, none⟩ = some (.int .i64 0) := (blk_cell BK14040.out 1).trans rfl
           have hfs80 := blk_frozen BK14040.out 1
           have hns80_0 := NB14010_14040.out
           have hns80_1 := NB14018_14040.out
           have hns80_2 := NB14026_14040.out
           have hns80_3 := NB14029_14040.out
           have hms80_0 := NB14040_14010.out
           have hms80_1 := NB14040_14018.out
           have hms80_2 := NB14040_14026.out
           have hms80_3 := NB14040_14029.out
           have hs81 : w78.cell? ⟨gb14040, 2, none⟩ = some (.int .i64 0) := (blk_cell BK14040.out 2).trans rfl
           have hfs81 := blk_frozen BK14040.out 2
           have hns81_0 := NB14010_14040.out
           have hns81_1 := NB14018_14040.out
           have hns81_2 := NB14026_14040.out
           have hns81_3 := NB14029_14040.out
           have hms81_0 := NB14040_14010.out
           have hms81_1 := NB14040_14018.out
           have hms81_2 := NB14040_14026.out
           have hms81_3 := NB14040_14029.out
           have hs83 : w78.cell? ⟨gb14040, 3, none⟩ = some (.slice none 0 0) := (blk_cell BK14040.out 3).trans rfl
           have hfs83 := blk_frozen BK14040.out 3
           have hns83_0 := NB14010_14040.out
           have hns83_1 := NB14018_14040.out
           have hns83_2 := NB14026_14040.out
           have hns83_3 := NB14029_14040.out
           have hms83_0 := NB14040_14010.out
           have hms83_1 := NB14040_14018.out
           have hms83_2 := NB14040_14026.out
           have hms83_3 := NB14040_14029.out
           refine skip_ (w1 := ?_) (by rfl) rfl ?_ ?_
           rotate_left
           ·go_simp
            rfl
           refine hK.out _ _ ⟨((cell_far (p := ⟨gb14040, _, none⟩) NB14029_14040.out _).trans (((cell_far (p := ⟨gb14040, _, none⟩) NB14029_14040.out _).trans (((cell_far (p := ⟨gb14040, _, none⟩) NB14029_14040.out _).trans (((cell_far (p := ⟨gb14040, _, none⟩) NB14029_14040.out _).trans hHeld.1))))))), ((cell_far (p := ⟨gb14040, _, none⟩) NB14029_14040.out _).trans (((cell_far (p := ⟨gb14040, _, none⟩) NB14029_14040.out _).trans (((cell_far (p := ⟨gb14040, _, none⟩) NB14029_14040.out _).trans (((cell_far (p := ⟨gb14040, _, none⟩) NB14029_14040.out _).trans hHeld.2.1))))))), ((cell_far (p := ⟨gb14040, _, none⟩) NB14029_14040.out _).trans (((cell_far (p := ⟨gb14040, _, none⟩) NB14029_14040.out _).trans (((cell_far (p := ⟨gb14040, _, none⟩) NB14029_14040.out _).trans (((cell_far (p := ⟨gb14040, _, none⟩) NB14029_14040.out _).trans hHeld.2.2.1))))))), ((cell_far (p := ⟨gb14040, _, none⟩) NB14029_14040.out _).trans (((cell_far (p := ⟨gb14040, _, none⟩) NB14029_14040.out _).trans (((cell_far (p := ⟨gb14040, _, none⟩) NB14029_14040.out _).trans (((cell_far (p := ⟨gb14040, _, none⟩) NB14029_14040.out _).trans hHeld.2.2.2.1))))))), ((cell_far (p := ⟨gb14040, _, none⟩) (by (rw [add_block]; exact Kd.own_blk (Kd.N_away HO_4.out (fun _ hk => hk.2.2.2.2.2.2.2.2.2)))) _).trans (((cell_far (p := ⟨gb14040, _, none⟩) (by (rw [add_block]; exact Kd.own_blk (Kd.N_away HO_4.out (fun _ hk => hk.2.2.2.2.2.2.2.2.2)))) _).trans (((cell_far (p := ⟨gb14040, _, none⟩) (by (rw [add_block]; exact Kd.own_blk (Kd.N_away HO_4.out (fun _ hk => hk.2.2.2.2.2.2.2.2.2)))) _).trans (((cell_far (p := ⟨gb14040, _, none⟩) (by (rw [add_block]; exact Kd.own_blk (Kd.N_away HO_4.out (fun _ hk => hk.2.2.2.2.2.2.2.2.2)))) _).trans hHeld.2.2.2.2.1))))))), ((cell_far (p := ⟨gb14040, _, none⟩) (by (rw [add_block]; exact Kd.own_blk (Kd.N_away HO_4.out (fun _ hk => hk.2.2.2.2.2.2.2.2.2)))) _).trans (((cell_far (p := ⟨gb14040, _, none⟩) (by (rw [add_block]; exact Kd.own_blk (Kd.N_away HO_4.out (fun _ hk => hk.2.2.2.2.2.2.2.2.2)))) _).trans (((cell_far (p := ⟨gb14040, _, none⟩) (by (rw [add_block]; exact Kd.own_blk (Kd.N_away HO_4.out (fun _ hk => hk.2.2.2.2.2.2.2.2.2)))) _).trans (((cell_far (p := ⟨gb14040, _, none⟩) (by (rw [add_block]; exact Kd.own_blk (Kd.N_away HO_4.out (fun _ hk => hk.2.2.2.2.2.2.2.2.2)))) _).trans hHeld.2.2.2.2.2.1))))))), ((cell_far (p := ⟨gb14040, _, none⟩) (by (rw [add_block]; exact Kd.own_blk (Kd.N_away HO_4.out (fun _ hk => hk.2.2.2.2.2.2.2.2.2)))) _).trans (((cell_far (p := ⟨gb14040, _, none⟩) (by (rw [add_block]; exact Kd.own_blk (Kd.N_away HO_4.out (fun _ hk => hk.2.2.2.2.2.2.2.2.2)))) _).trans (((cell_far (p := ⟨gb14040, _, none⟩) (by (rw [add_block]; exact Kd.own_blk (Kd.N_away HO_4.out (fun _ hk => hk.2.2.2.2.2.2.2.2.2)))) _).trans (((cell_far (p := ⟨gb14040, _, none⟩) (by (rw [add_block]; exact Kd.own_blk (Kd.N_away HO_4.out (fun _ hk => hk.2.2.2.2.2.2.2.2.2)))) _).trans hHeld.2.2.2.2.2.2.1))))))), ((cell_far (p := ⟨gb14040, _, none⟩) (by (rw [add_block]; exact Kd.own_blk (Kd.N_away HO_4.out (fun _ hk => hk.2.2.2.2.2.2.2.2.2)))) _).trans (((cell_far (p := ⟨gb14040, _, none⟩) (by (rw [add_block]; exact Kd.own_blk (Kd.N_away HO_4.out (fun _ hk => hk.2.2.2.2.2.2.2.2.2)))) _).trans (((cell_far (p := ⟨gb14040, _, none⟩) (by (rw [add_block]; exact Kd.own_blk (Kd.N_away HO_4.out (fun _ hk => hk.2.2.2.2.2.2.2.2.2)))) _).trans (((cell_far (p := ⟨gb14040, _, none⟩) (by (rw [add_block]; exact Kd.own_blk (Kd.N_away HO_4.out (fun _ hk => hk.2.2.2.2.2.2.2.2.2)))) _).trans hHeld.2.2.2.2.2.2.2.1))))))), ((cell_far (p := ⟨gb14040, _, none⟩) (by (rw [add_block]; exact Kd.own_blk (Kd.N_away HO_4.out (fun _ hk => hk.2.2.2.2.2.2.2.2.2)))) _).trans (((cell_far (p := ⟨gb14040, _, none⟩) (by (rw [add_block]; exact Kd.own_blk (Kd.N_away HO_4.out (fun _ hk => hk.2.2.2.2.2.2.2.2.2)))) _).trans (((cell_far (p := ⟨gb14040, _, none⟩) (by (rw [add_block]; exact Kd.own_blk (Kd.N_away HO_4.out (fun _ hk => hk.2.2.2.2.2.2.2.2.2)))) _).trans (((cell_far (p := ⟨gb14040, _, none⟩) (by (rw [add_block]; exact Kd.own_blk (Kd.N_away HO_4.out (fun _ hk => hk.2.2.2.2.2.2.2.2.2)))) _).trans hHeld.2.2.2.2.2.2.2.2.1))))))), ((cell_far (p := ⟨gb14040, _, none⟩) (by (rw [add_block]; exact Kd.own_blk (Kd.N_away HO_4.out (fun _ hk => hk.2.2.2.2.2.2.2.2.2)))) _).trans (((cell_far (p := ⟨gb14040, _, none⟩) (by (rw [add_block]; exact Kd.own_blk (Kd.N_away HO_4.out (fun _ hk => hk.2.2.2.2.2.2.2.2.2)))) _).trans (((cell_far (p := ⟨gb14040, _, none⟩) (by (rw [add_block]; exact Kd.own_blk (Kd.N_away HO_4.out (fun _ hk => hk.2.2.2.2.2.2.2.2.2)))) _).trans (((cell_far (p := ⟨gb14040, _, none⟩) (by (rw [add_block]; exact Kd.own_blk (Kd.N_away HO_4.out (fun _ hk => hk.2.2.2.2.2.2.2.2.2)))) _).trans hHeld.2.2.2.2.2.2.2.2.2.1))))))), ((cell_far (p := ⟨gb14040, _, none⟩) (by (rw [add_block]; exact Kd.own_blk (Kd.N_away HO_4.out (fun _ hk => hk.2.2.2.2.2.2.2.2.2)))) _).trans (((cell_far (p := ⟨gb14040, _, none⟩) (by (rw [add_block]; exact Kd.own_blk (Kd.N_away HO_4.out (fun _ hk => hk.2.2.2.2.2.2.2.2.2)))) _).trans (((cell_far (p := ⟨gb14040, _, none⟩) (by (rw [add_block]; exact Kd.own_blk (Kd.N_away HO_4.out (fun _ hk => hk.2.2.2.2.2.2.2.2.2)))) _).trans (((cell_far (p := ⟨gb14040, _, none⟩) (by (rw [add_block]; exact Kd.own_blk (Kd.N_away HO_4.out (fun _ hk => hk.2.2.2.2.2.2.2.2.2)))) _).trans hHeld.2.2.2.2.2.2.2.2.2.2.1))))))), ((cell_far (p := ⟨gb14040, _, none⟩) (by (rw [add_block]; exact Kd.own_blk (Kd.N_away HO_4.out (fun _ hk => hk.2.2.2.2.2.2.2.2.2)))) _).trans (((cell_far (p := ⟨gb14040, _, none⟩) (by (rw [add_block]; exact Kd.own_blk (Kd.N_away HO_4.out (fun _ hk => hk.2.2.2.2.2.2.2.2.2)))) _).trans (((cell_far (p := ⟨gb14040, _, none⟩) (by (rw [add_block]; exact Kd.own_blk (Kd.N_away HO_4.out (fun _ hk => hk.2.2.2.2.2.2.2.2.2)))) _).trans (((cell_far (p := ⟨gb14040, _, none⟩) (by (rw [add_block]; exact Kd.own_blk (Kd.N_away HO_4.out (fun _ hk => hk.2.2.2.2.2.2.2.2.2)))) _).trans hHeld.2.2.2.2.2.2.2.2.2.2.2.1))))))), ((cell_far (p := ⟨gb14040, _, none⟩) (by (rw [add_block]; exact Kd.own_blk (Kd.N_away HO_4.out (fun _ hk => hk.2.2.2.2.2.2.2.2.2)))) _).trans (((cell_far (p := ⟨gb14040, _, none⟩) (by (rw [add_block]; exact Kd.own_blk (Kd.N_away HO_4.out (fun _ hk => hk.2.2.2.2.2.2.2.2.2)))) _).trans (((cell_far (p := ⟨gb14040, _, none⟩) (by (rw [add_block]; exact Kd.own_blk (Kd.N_away HO_4.out (fun _ hk => hk.2.2.2.2.2.2.2.2.2)))) _).trans (((cell_far (p := ⟨gb14040, _, none⟩) (by (rw [add_block]; exact Kd.own_blk (Kd.N_away HO_4.out (fun _ hk => hk.2.2.2.2.2.2.2.2.2)))) _).trans hHeld.2.2.2.2.2.2.2.2.2.2.2.2)))))))⟩ (fun hHeld => ?_)
           clear hK K
           refine pure_ (i := 11) (N := some 12) (v := ?_) (a' := ?_) #[true, true, true, true, true, true, true, true, true, true, true, true] rfl rfl (any_of HT_.out (by kernel_rfl)) (fun _ _ _ h => h) (Or.inl ⟨by rfl, ?_⟩) ?_ ?_
           rotate_left
           ·intro w'
            go_simp
            with_reducible rfl
           rotate_left
           ·simp only [Act.put, List.setIfInBounds_toArray, List.set_cons_zero, List.set_cons_succ, i64_w, i32_w]
            rfl
           refine done_ (done_of HT_.out (by kernel_rfl)) ?_
           have hnb84 := NB14040_14010.out
           have hnc84 := NB14010_14040.out
           have hnb85 := NB14040_14018.out
           have hnc85 := NB14018_14040.out
           have hnb86 := NB14040_14026.out
           have hnc86 := NB14026_14040.out
           have hnb87 := NB14040_14029.out
           have hnc87 := NB14029_14040.out
           have hcz88_0 : w78.cell? ⟨gb14040, 0, none⟩ = some (.int .i64 0) := (blk_cell BK14040.out 0).trans rfl
           have hcz88_1 : w78.cell? ⟨gb14040, 1, none⟩ = some (.int .i64 0) := (blk_cell BK14040.out 1).trans rfl
           have hcz88_2 : w78.cell? ⟨gb14040, 2, none⟩ = some (.int .i64 0) := (blk_cell BK14040.out 2).trans rfl
           have hcz88_3 : w78.cell? ⟨gb14040, 3, none⟩ = some (.slice none 0 0) := (blk_cell BK14040.out 3).trans rfl
           have hfz88_0 := blk_frozen BK14040.out 0
           have hfz88_1 := blk_frozen BK14040.out 1
           have hfz88_2 := blk_frozen BK14040.out 2
           have hfz88_3 := blk_frozen BK14040.out 3
           have hnb89 := NB14029_14010.out
           have hnc89 := NB14010_14029.out
           have hnb90 := NB14029_14018.out
           have hnc90 := NB14018_14029.out
           have hnb91 := NB14029_14026.out
           have hnc91 := NB14026_14029.out
           have hcz92_0 : w78.cell? ⟨gb14029, 0, none⟩ = some (.int .i64 x14030000_2) := (blk_cell BK14029.out 0).trans rfl
           have hcz92_1 : w78.cell? ⟨gb14029, 1, none⟩ = some (.int .i64 x14030001_2) := (blk_cell BK14029.out 1).trans rfl
           have hcz92_2 : w78.cell? ⟨gb14029, 2, none⟩ = some (.int .i64 x14030002_2) := (blk_cell BK14029.out 2).trans rfl
           have hcz92_3 : w78.cell? ⟨gb14029, 3, none⟩ = some (.slice Ao74 x14030003_2.length co74) := (blk_cell BK14029.out 3).trans rfl
           have hfz92_0 := blk_frozen BK14029.out 0
           have hfz92_1 := blk_frozen BK14029.out 1
           have hfz92_2 := blk_frozen BK14029.out 2
           have hfz92_3 := blk_frozen BK14029.out 3
           try go_wp2
           go_roundg k2
           case measure => have := HJ5.out; have := HK2.out; omega
           case rel => exact ⟨(wrap64 (x10_2 + 1)), (t14033), (t14034), (t14035), (t14036), (.slice Ao82 t14036.length co82), (by rfl), H', ⟨by have := HJ5.out; have := HK2.out; omega⟩, ⟨by (with_reducible repeat (first | apply Kd.N_alloc | apply Kd.N_drewN | apply Kd.N_drew)); exact Kd.N_mono (Kd.N_far (p := ⟨gb14029, 3, none⟩) (Kd.N_far (p := ⟨gb14029, 2, none⟩) (Kd.N_far (p := ⟨gb14029, 1, none⟩) (Kd.N_far (p := ⟨gb14029, 0, none⟩) (Kd.N_far (p := ⟨gb14040, 3, none⟩) (Kd.N_far (p := ⟨gb14040, 2, none⟩) (Kd.N_far (p := ⟨gb14040, 1, none⟩) (Kd.N_far (p := ⟨gb14040, 0, none⟩) (Kd.N_mono (Kd.N_mono HO_4.out (fun k_ hk => (⟨hk, hk.2.2.2.2.2.2.2.2.2⟩ : _ ∧ k_ ≠ gb14040))) (fun k_ hk => (⟨hk, hk.1.2.2.2.2.2.2.2.2.1⟩ : _ ∧ k_ ≠ gb14029))) (fun _ hk => hk.1.2) (.int .i64 t14033)) (fun _ hk => hk.1.2) (.int .i64 t14034)) (fun _ hk => hk.1.2) (.int .i64 t14035)) (fun _ hk => hk.1.2) (.slice Ao82 t14036.length co82)) (fun _ hk => hk.2) (.int .i64 t14033)) (fun _ hk => hk.2) (.int .i64 t14034)) (fun _ hk => hk.2) (.int .i64 t14035)) (fun _ hk => hk.2) (.slice Ao82 t14036.length co82)) (fun _ hk => ⟨hk.1.1.2.1, ⟨hk.1.1.2.2.1, ⟨hk.1.1.2.2.2.1, ⟨hk.1.1.1, ⟨hk.1.1.2.2.2.2.2.1, ⟨hk.1.1.2.2.2.2.2.2.1, ⟨hk.1.1.2.2.2.2.2.2.2.1, hk.1.1.2.2.2.2.2.2.2.2.1⟩⟩⟩⟩⟩⟩⟩)⟩, ⟨by (with_reducible repeat (first | apply Kd.Q_alloc | apply Kd.Q_drewN | apply Kd.Q_drew)); exact Kd.Q_mono (Kd.Q_far (p := ⟨gb14029, 3, none⟩) (Kd.Q_far (p := ⟨gb14029, 2, none⟩) (Kd.Q_far (p := ⟨gb14029, 1, none⟩) (Kd.Q_far (p := ⟨gb14029, 0, none⟩) (Kd.Q_far (p := ⟨gb14040, 3, none⟩) (Kd.Q_far (p := ⟨gb14040, 2, none⟩) (Kd.Q_far (p := ⟨gb14040, 1, none⟩) (Kd.Q_far (p := ⟨gb14040, 0, none⟩) (Kd.Q_types (Kd.Q_types HO_14011003.out BK14040.out (by decide)) BK14029.out (by decide)) (fun _ hk => hk.1.2) (.int .i64 t14033)) (fun _ hk => hk.1.2) (.int .i64 t14034)) (fun _ hk => hk.1.2) (.int .i64 t14035)) (fun _ hk => hk.1.2) (.slice Ao82 t14036.length co82)) (fun _ hk => hk.2) (.int .i64 t14033)) (fun _ hk => hk.2) (.int .i64 t14034)) (fun _ hk => hk.2) (.int .i64 t14035)) (fun _ hk => hk.2) (.slice Ao82 t14036.length co82)) (fun _ hk => by simp [hk])⟩, ⟨by (with_reducible repeat (first | apply Kd.Q_alloc | apply Kd.Q_drewN | apply Kd.Q_drew)); exact Kd.Q_mono (Kd.Q_far (p := ⟨gb14029, 3, none⟩) (Kd.Q_far (p := ⟨gb14029, 2, none⟩) (Kd.Q_far (p := ⟨gb14029, 1, none⟩) (Kd.Q_far (p := ⟨gb14029, 0, none⟩) (Kd.Q_far (p := ⟨gb14040, 3, none⟩) (Kd.Q_far (p := ⟨gb14040, 2, none⟩) (Kd.Q_far (p := ⟨gb14040, 1, none⟩) (Kd.Q_far (p := ⟨gb14040, 0, none⟩) (Kd.Q_types (Kd.Q_types HO_14019003.out BK14040.out (by decide)) BK14029.out (by decide)) (fun _ hk => hk.1.2) (.int .i64 t14033)) (fun _ hk => hk.1.2) (.int .i64 t14034)) (fun _ hk => hk.1.2) (.int .i64 t14035)) (fun _ hk => hk.1.2) (.slice Ao82 t14036.length co82)) (fun _ hk => hk.2) (.int .i64 t14033)) (fun _ hk => hk.2) (.int .i64 t14034)) (fun _ hk => hk.2) (.int .i64 t14035)) (fun _ hk => hk.2) (.slice Ao82 t14036.length co82)) (fun _ hk => by simp [hk])⟩, ⟨by (with_reducible repeat (first | apply Kd.Q_alloc | apply Kd.Q_drewN | apply Kd.Q_drew)); exact Kd.Q_mono (Kd.Q_far (p := ⟨gb14029, 3, none⟩) (Kd.Q_far (p := ⟨gb14029, 2, none⟩) (Kd.Q_far (p := ⟨gb14029, 1, none⟩) (Kd.Q_far (p := ⟨gb14029, 0, none⟩) (Kd.Q_far (p := ⟨gb14040, 3, none⟩) (Kd.Q_far (p := ⟨gb14040, 2, none⟩) (Kd.Q_far (p := ⟨gb14040, 1, none⟩) (Kd.Q_far (p := ⟨gb14040, 0, none⟩) (Kd.Q_types (Kd.Q_types HO_14027003.out BK14040.out (by decide)) BK14029.out (by decide)) (fun _ hk => hk.1.2) (.int .i64 t14033)) (fun _ hk => hk.1.2) (.int .i64 t14034)) (fun _ hk => hk.1.2) (.int .i64 t14035)) (fun _ hk => hk.1.2) (.slice Ao82 t14036.length co82)) (fun _ hk => hk.2) (.int .i64 t14033)) (fun _ hk => hk.2) (.int .i64 t14034)) (fun _ hk => hk.2) (.int .i64 t14035)) (fun _ hk => hk.2) (.slice Ao82 t14036.length co82)) (fun _ hk => by simp [hk])⟩, ⟨Kd.Q_of_R (by exact Kd.R_mono (Kd.R_far (p := ⟨gb14029, 3, none⟩) (Kd.R_far (p := ⟨gb14029, 2, none⟩) (Kd.R_far (p := ⟨gb14029, 1, none⟩) (Kd.R_far (p := ⟨gb14029, 0, none⟩) (Kd.R_far (p := ⟨gb14040, 3, none⟩) (Kd.R_far (p := ⟨gb14040, 2, none⟩) (Kd.R_far (p := ⟨gb14040, 1, none⟩) (Kd.R_far (p := ⟨gb14040, 0, none⟩) (Kd.R_types (Kd.R_types HO14038.out BK14040.out (by decide)) BK14029.out (by decide)) (fun _ hk => hk.1.2) (.int .i64 t14033)) (fun _ hk => hk.1.2) (.int .i64 t14034)) (fun _ hk => hk.1.2) (.int .i64 t14035)) (fun _ hk => hk.1.2) (.slice Ao82 t14036.length co82)) (fun _ hk => hk.2) (.int .i64 t14033)) (fun _ hk => hk.2) (.int .i64 t14034)) (fun _ hk => hk.2) (.int .i64 t14035)) (fun _ hk => hk.2) (.slice Ao82 t14036.length co82)) (fun _ hk => by simp [hk]))⟩, ⟨by (with_reducible repeat (first | refine blk_drewN ?_ _ | refine blk_drew ?_ | refine blk_alloc ?_ _)); refine blk_far ?_ NB14010_14029.out _; (with_reducible repeat (first | refine blk_drewN ?_ _ | refine blk_drew ?_ | refine blk_alloc ?_ _)); refine blk_far ?_ NB14010_14029.out _; (with_reducible repeat (first | refine blk_drewN ?_ _ | refine blk_drew ?_ | refine blk_alloc ?_ _)); refine blk_far ?_ NB14010_14029.out _; (with_reducible repeat (first | refine blk_drewN ?_ _ | refine blk_drew ?_ | refine blk_alloc ?_ _)); refine blk_far ?_ NB14010_14029.out _; (with_reducible repeat (first | refine blk_drewN ?_ _ | refine blk_drew ?_ | refine blk_alloc ?_ _)); refine blk_far ?_ NB14010_14040.out _; (with_reducible repeat (first | refine blk_drewN ?_ _ | refine blk_drew ?_ | refine blk_alloc ?_ _)); refine blk_far ?_ NB14010_14040.out _; (with_reducible repeat (first | refine blk_drewN ?_ _ | refine blk_drew ?_ | refine blk_alloc ?_ _)); refine blk_far ?_ NB14010_14040.out _; (with_reducible repeat (first | refine blk_drewN ?_ _ | refine blk_drew ?_ | refine blk_alloc ?_ _)); refine blk_far ?_ NB14010_14040.out _; (with_reducible repeat (first | refine blk_drewN ?_ _ | refine blk_drew ?_ | refine blk_alloc ?_ _)); exact BK14010.out⟩, ⟨by (with_reducible repeat (first | refine blk_drewN ?_ _ | refine blk_drew ?_ | refine blk_alloc ?_ _)); refine blk_far ?_ NB14018_14029.out _; (with_reducible repeat (first | refine blk_drewN ?_ _ | refine blk_drew ?_ | refine blk_alloc ?_ _)); refine blk_far ?_ NB14018_14029.out _; (with_reducible repeat (first | refine blk_drewN ?_ _ | refine blk_drew ?_ | refine blk_alloc ?_ _)); refine blk_far ?_ NB14018_14029.out _; (with_reducible repeat (first | refine blk_drewN ?_ _ | refine blk_drew ?_ | refine blk_alloc ?_ _)); refine blk_far ?_ NB14018_14029.out _; (with_reducible repeat (first | refine blk_drewN ?_ _ | refine blk_drew ?_ | refine blk_alloc ?_ _)); refine blk_far ?_ NB14018_14040.out _; (with_reducible repeat (first | refine blk_drewN ?_ _ | refine blk_drew ?_ | refine blk_alloc ?_ _)); refine blk_far ?_ NB14018_14040.out _; (with_reducible repeat (first | refine blk_drewN ?_ _ | refine blk_drew ?_ | refine blk_alloc ?_ _)); refine blk_far ?_ NB14018_14040.out _; (with_reducible repeat (first | refine blk_drewN ?_ _ | refine blk_drew ?_ | refine blk_alloc ?_ _)); refine blk_far ?_ NB14018_14040.out _; (with_reducible repeat (first | refine blk_drewN ?_ _ | refine blk_drew ?_ | refine blk_alloc ?_ _)); exact BK14018.out⟩, ⟨by (with_reducible repeat (first | refine blk_drewN ?_ _ | refine blk_drew ?_ | refine blk_alloc ?_ _)); refine blk_far ?_ NB14026_14029.out _; (with_reducible repeat (first | refine blk_drewN ?_ _ | refine blk_drew ?_ | refine blk_alloc ?_ _)); refine blk_far ?_ NB14026_14029.out _; (with_reducible repeat (first | refine blk_drewN ?_ _ | refine blk_drew ?_ | refine blk_alloc ?_ _)); refine blk_far ?_ NB14026_14029.out _; (with_reducible repeat (first | refine blk_drewN ?_ _ | refine blk_drew ?_ | refine blk_alloc ?_ _)); refine blk_far ?_ NB14026_14029.out _; (with_reducible repeat (first | refine blk_drewN ?_ _ | refine blk_drew ?_ | refine blk_alloc ?_ _)); refine blk_far ?_ NB14026_14040.out _; (with_reducible repeat (first | refine blk_drewN ?_ _ | refine blk_drew ?_ | refine blk_alloc ?_ _)); refine blk_far ?_ NB14026_14040.out _; (with_reducible repeat (first | refine blk_drewN ?_ _ | refine blk_drew ?_ | refine blk_alloc ?_ _)); refine blk_far ?_ NB14026_14040.out _; (with_reducible repeat (first | refine blk_drewN ?_ _ | refine blk_drew ?_ | refine blk_alloc ?_ _)); refine blk_far ?_ NB14026_14040.out _; (with_reducible repeat (first | refine blk_drewN ?_ _ | refine blk_drew ?_ | refine blk_alloc ?_ _)); exact BK14026.out⟩, ⟨by (with_reducible repeat (first | refine blk_drewN ?_ _ | refine blk_drew ?_ | refine blk_alloc ?_ _)); refine blk_put (cs := #[.int .i64 t14033, .int .i64 t14034, .int .i64 t14035, .slice Ao74 x14030003_2.length co74]) ?_ 3 _ rfl; (with_reducible repeat (first | refine blk_drewN ?_ _ | refine blk_drew ?_ | refine blk_alloc ?_ _)); refine blk_put (cs := #[.int .i64 t14033, .int .i64 t14034, .int .i64 x14030002_2, .slice Ao74 x14030003_2.length co74]) ?_ 2 _ rfl; (with_reducible repeat (first | refine blk_drewN ?_ _ | refine blk_drew ?_ | refine blk_alloc ?_ _)); refine blk_put (cs := #[.int .i64 t14033, .int .i64 x14030001_2, .int .i64 x14030002_2, .slice Ao74 x14030003_2.length co74]) ?_ 1 _ rfl; (with_reducible repeat (first | refine blk_drewN ?_ _ | refine blk_drew ?_ | refine blk_alloc ?_ _)); refine blk_put (cs := #[.int .i64 x14030000_2, .int .i64 x14030001_2, .int .i64 x14030002_2, .slice Ao74 x14030003_2.length co74]) ?_ 0 _ rfl; (with_reducible repeat (first | refine blk_drewN ?_ _ | refine blk_drew ?_ | refine blk_alloc ?_ _)); refine blk_far ?_ NB14029_14040.out _; (with_reducible repeat (first | refine blk_drewN ?_ _ | refine blk_drew ?_ | refine blk_alloc ?_ _)); refine blk_far ?_ NB14029_14040.out _; (with_reducible repeat (first | refine blk_drewN ?_ _ | refine blk_drew ?_ | refine blk_alloc ?_ _)); refine blk_far ?_ NB14029_14040.out _; (with_reducible repeat (first | refine blk_drewN ?_ _ | refine blk_drew ?_ | refine blk_alloc ?_ _)); refine blk_far ?_ NB14029_14040.out _; (with_reducible repeat (first | refine blk_drewN ?_ _ | refine blk_drew ?_ | refine blk_alloc ?_ _)); exact BK14029.out⟩, ⟨by repeat (with_reducible first | exact HB.out | refine below_set ?_ GE14029.out | refine below_set ?_ GE14040.out)⟩⟩
          ·replace c73 := Bool.eq_false_iff.mpr c73
           subst c73
           have H1 : (some false) = some r := by rw [if_neg (show ¬ (false = true) by decide)] at H; exact H
           clear H
           have H := H1
           clear H1
           exact absurd ((Option.some.inj H).trans HRT.out) (by decide)
        ·rw [if_neg c69] at H
         exact absurd H (by simp)
       ·rw [if_neg c68] at H
        have c68b0 : decide (x10_2 < (t14007.length : Int)) = false := decide_eq_false c68
        clear c68
        replace H := Option.bind_eq_some_iff.mp H
        obtain ⟨t14030, A1030, H⟩ := H
        replace H : (some t14030) = some r := H
        have A103 := mk A1030
        clear A1030
        obtain rfl := Option.some.inj H
        have hnb104 := NB14029_14010.out
        have hnc104 := NB14010_14029.out
        have hnb105 := NB14029_14018.out
        have hnc105 := NB14018_14029.out
        have hnb106 := NB14029_14026.out
        have hnc106 := NB14026_14029.out
        have hcz107_0 : wr.cell? ⟨gb14029, 0, none⟩ = some (.int .i64 x14030000_2) := (blk_cell BK14029.out 0).trans rfl
        have hcz107_1 : wr.cell? ⟨gb14029, 1, none⟩ = some (.int .i64 x14030001_2) := (blk_cell BK14029.out 1).trans rfl
        have hcz107_2 : wr.cell? ⟨gb14029, 2, none⟩ = some (.int .i64 x14030002_2) := (blk_cell BK14029.out 2).trans rfl
        have hcz107_3 : wr.cell? ⟨gb14029, 3, none⟩ = some u14030003 := (blk_cell BK14029.out 3).trans rfl
        have hfz107_0 := blk_frozen BK14029.out 0
        have hfz107_1 := blk_frozen BK14029.out 1
        have hfz107_2 := blk_frozen BK14029.out 2
        have hfz107_3 := blk_frozen BK14029.out 3
        have hnb108 := NB14018_14010.out
        have hnc108 := NB14010_14018.out
        have hnb109 := NB14018_14026.out
        have hnc109 := NB14026_14018.out
        have hcz110_0 : wr.cell? ⟨gb14018, 0, none⟩ = some (.int .i64 t14011) := (blk_cell BK14018.out 0).trans rfl
        have hcz110_1 : wr.cell? ⟨gb14018, 1, none⟩ = some (.int .i64 t14012) := (blk_cell BK14018.out 1).trans rfl
        have hcz110_2 : wr.cell? ⟨gb14018, 2, none⟩ = some (.int .i64 t14013) := (blk_cell BK14018.out 2).trans rfl
        have hcz110_3 : wr.cell? ⟨gb14018, 3, none⟩ = some (.slice Ao16 t14014.length co16) := (blk_cell BK14018.out 3).trans rfl
        have hfz110_0 := blk_frozen BK14018.out 0
        have hfz110_1 := blk_frozen BK14018.out 1
        have hfz110_2 := blk_frozen BK14018.out 2
        have hfz110_3 := blk_frozen BK14018.out 3
        obtain ⟨Ao111, co111, eo111, _⟩ := Kd.Q_slice HO_14030003.out
        subst eo111
        go_wp2_with (first | ((with_reducible refine gate_callee (f := 26) rfl ?_); refine goesL_ (some 80) rfl rfl Try.func26 (by kernel_rfl) rfl #[.agg #[.int .i64 x14030000_2, .int .i64 x14030001_2, .int .i64 x14030002_2, .slice Ao111 x14030003_2.length co111], .agg #[.int .i64 t14011, .int .i64 t14012, .int .i64 t14013, .slice Ao16 t14014.length co16]] rfl (by (try simp only [List.map_toArray, List.map_cons, List.map_nil]); rfl) ?_; (with_reducible refine (laws_equalImage.calls k2 x14030000_2 x14030001_2 x14030002_2 _ _ x14030003_2 t14011 t14012 t14013 _ _ t14014 t14030 _ ?side1 ?side2 ?side3 ?side4 A103.out).mono ?_); (case side1 => repeat (exact (Kd.Q_reads' HO_14030003.out).2.2)); (case side2 => exact (Kd.Q_reads' HO_14030003.out).2.1); (case side3 => repeat (exact (Kd.Q_reads' HO_14019003.out).2.2)); (case side4 => exact (Kd.Q_reads' HO_14019003.out).2.1); rintro e w112 ⟨rfl, hb⟩; refine ⟨_, rfl, ?_⟩; have n0_ := mk (Kd.N_below HO_4.out hb); have n1_ := mk (Kd.Q_below HO_14011003.out hb); have n2_ := mk (Kd.Q_below HO_14019003.out hb); have n3_ := mk (Kd.Q_below HO_14027003.out hb); have n4_ := mk (Kd.Q_below HO_14030003.out hb); have n5_ := mk (blk_below BK14010.out hb); have n6_ := mk (blk_below BK14018.out hb); have n7_ := mk (blk_below BK14026.out hb); have n8_ := mk (blk_below BK14029.out hb); have n9_ := mk (below_step HB.out hb); clear HO_4; clear HO_14011003; clear HO_14019003; clear HO_14027003; clear HO_14030003; clear BK14010; clear BK14018; clear BK14026; clear BK14029; clear HB; have HO_4 := n0_; have HO_14011003 := n1_; have HO_14019003 := n2_; have HO_14027003 := n3_; have HO_14030003 := n4_; have BK14010 := n5_; have BK14018 := n6_; have BK14026 := n7_; have BK14029 := n8_; have HB := n9_; clear n0_ n1_ n2_ n3_ n4_ n5_ n6_ n7_ n8_ n9_; (try clear hb)))
        go_ret
        exact ⟨by rfl, by exact HB.out⟩

def laws_FnFlattenLayers.Pure : Prop := ∀ (l0 : List Int), l0.length ≤ maxLen → l0.length * 1 ≤ 140737488351232 → (∀ x ∈ l0, (Lit.int .u8 x).wf = true) → ∃ k, laws_FnFlattenLayers.f k l0 = some true
theorem laws_FnFlattenLayers.walk (P : laws_FnFlattenLayers.Pure) (a0 : Option Addr) (len0 cap0 : Nat) (z0 : List Int) (w : World) (w0 : (a0 = none ∧ len0 = 0 ∧ cap0 = 0 ∧ z0 = []) ∨ ∃ x, a0 = some x ∧ len0 ≤ cap0 ∧ cap0 ≤ maxLen ∧ z0.length = cap0 ∧ (∀ i, i < z0.length → w.cell? (x.add i) = some (.int .u8 (z0.getD i 0))) ∧ ∀ n ∈ z0, (Lit.int .u8 n).wf = true) (y0 : len0 * 1 ≤ 140737488351232) :
  Calls Try.prog 13 #[.slice a0 len0 cap0] w fun e w' => e = .returned (.bool true) ∧ Below w.heap.size w w' := by
 obtain ⟨l0, rfl, hr0, hm0, hw0, hc0⟩ := ReadsInt.ofRowC w0
 obtain ⟨k, h⟩ := P l0 hm0 y0 hw0
 refine (laws_FnFlattenLayers.calls k _ _ l0 true w (Kd.C_of_reads (d := (0 : Int)) (h1 := fun _ => rfl) hr0) hc0 h rfl).mono ?_
 rintro e w' ⟨rfl, hd⟩
 exact ⟨rfl, hd⟩

end Go.Proofs.Ytnofkbbcbpjhfaa.Q

/- Images as pixels: lists of numbers cut into equal parts. -/
namespace Go.Proofs.Ytnofkbbcbpjhfaa.Pure
open Go.RowKit Go.Proofs.Ytnofkbbcbpjhfaa.Q Go.Proofs.YtnofkbbcbpjhfaaW.PrintWords Go.Proofs.YtnofkbbcbpjhfaaW.PrintLast Go.Proofs.YtnofkbbcbpjhfaaW.PrintMore
set_option linter.unusedVariables false
set_option linter.unusedSimpArgs false

def nx (n : Nat) (d : List Int) (i : Nat) : List Int := (d.drop (i * n)).take n
theorem nx_length {n m : Nat} {d : List Int} (hd : d.length = m * n) {i : Nat} (hi : i < m) : (nx n d i).length = n := by
 unfold nx
 have h : (i + 1) * n ≤ m * n := Nat.mul_le_mul_right n hi
 rw [Nat.add_mul, Nat.one_mul] at h
 rw [List.length_take, List.length_drop, hd]
 omega
theorem fm_length (f : Nat → List Int) (n : Nat) : ∀ m, (∀ i, i < m → (f i).length = n) → ((List.range m).flatMap f).length = m * n := by
 intro m
 induction m with
 | zero => intro _; simp
 | succ m ih =>
  intro h
  rw [List.range_succ, List.flatMap_append, List.length_append, ih (fun i hi => h i (by omega))]
  simp [h m (by omega), Nat.add_mul]
theorem fm_get (f : Nat → List Int) (n : Nat) : ∀ m, (∀ i, i < m → (f i).length = n) → ∀ i, i < m → nx n ((List.range m).flatMap f) i = f i := by
 intro m
 induction m with
 | zero => intro _ i hi; omega
 | succ m ih =>
  intro h i hi
  have hl := fm_length f n m (fun i hi => h i (by omega))
  rw [List.range_succ, List.flatMap_append]
  unfold nx
  by_cases c : i < m
  ·have h1 : (i + 1) * n ≤ m * n := Nat.mul_le_mul_right n c
   rw [Nat.add_mul, Nat.one_mul] at h1
   rw [List.drop_append_of_le_length (by omega), List.take_append_of_le_length (by rw [List.length_drop]; omega)]
   exact ih (fun i hi => h i (by omega)) i c
  ·have : i = m := by omega
   subst this
   rw [← hl, List.drop_left]
   simp only [List.flatMap_cons, List.flatMap_nil, List.append_nil]
   exact List.take_of_length_le (by rw [h i (by omega)]; exact Nat.le_refl _)
theorem fm_cut (n : Nat) : ∀ (m : Nat) (d : List Int), d.length = m * n → (List.range m).flatMap (nx n d) = d := by
 intro m
 induction m with
 | zero => intro d hd; simp at hd; simp [hd]
 | succ m ih =>
  intro d hd
  rw [Nat.add_mul, Nat.one_mul] at hd
  have h1 : (List.range m).flatMap (nx n d) = (List.range m).flatMap (nx n (d.take (m * n))) := by
   rw [List.flatMap_def, List.flatMap_def]
   congr 1
   refine List.map_congr_left (fun i hi => ?_)
   have hi' := List.mem_range.1 hi
   have h1 : (i + 1) * n ≤ m * n := Nat.mul_le_mul_right n hi'
   rw [Nat.add_mul, Nat.one_mul] at h1
   unfold nx
   rw [List.drop_take, List.take_take, Nat.min_eq_left (by omega)]
  rw [List.range_succ, List.flatMap_append, h1, ih _ (by rw [List.length_take]; omega)]
  simp only [List.flatMap_cons, List.flatMap_nil, List.append_nil]
  unfold nx
  rw [List.take_of_length_le (l := d.drop (m * n)) (by rw [List.length_drop]; omega), List.take_append_drop]
theorem ext_nx {n m : Nat} {d e : List Int} (hd : d.length = m * n) (he : e.length = m * n) (h : ∀ i, i < m → nx n d i = nx n e i) : d = e := by
 rw [← fm_cut n m d hd, ← fm_cut n m e he, List.flatMap_def, List.flatMap_def]
 congr 1
 exact List.map_congr_left (fun i hi => h i (List.mem_range.1 hi))
theorem imgD_congr {f g : Nat → Nat → List Int} {a b : Nat} (h : ∀ x y, x < a → y < b → f x y = g x y) : imgD f a b = imgD g a b := by
 unfold imgD rowD
 rw [List.flatMap_def, List.flatMap_def]
 congr 1
 refine List.map_congr_left (fun y hy => ?_)
 rw [List.flatMap_def, List.flatMap_def]
 congr 1
 exact List.map_congr_left (fun x hx => h x y (List.mem_range.1 hx) (List.mem_range.1 hy))
theorem rowD_length {px : Nat → Nat → List Int} {a n y : Nat} (h : ∀ x, x < a → (px x y).length = n) : (rowD px a y).length = a * n := fm_length _ n a h
theorem imgD_length {px : Nat → Nat → List Int} {a b n : Nat} (h : ∀ x y, x < a → y < b → (px x y).length = n) : (imgD px a b).length = (b * a) * n := by
 rw [Nat.mul_assoc]
 exact fm_length _ (a * n) b (fun y hy => rowD_length (fun x hx => h x y hx hy))
theorem nx_imgD {px : Nat → Nat → List Int} {a b n : Nat} (h : ∀ x y, x < a → y < b → (px x y).length = n) {x y : Nat} (hx : x < a) (hy : y < b) : nx n (imgD px a b) (y * a + x) = px x y := by
 have h1 := fm_get (rowD px a) (a * n) b (fun y hy => rowD_length (fun x hx => h x y hx hy)) y hy
 have h2 := fm_get (fun x => px x y) n a (fun x hx => h x y hx hy) x hx
 have h3 : (x + 1) * n ≤ a * n := Nat.mul_le_mul_right n hx
 rw [Nat.add_mul, Nat.one_mul] at h3
 show nx n ((List.range b).flatMap (rowD px a)) (y * a + x) = px x y
 rw [← h2]
 show _ = nx n (rowD px a y) x
 rw [← h1]
 unfold nx
 rw [List.drop_take, List.take_take, Nat.min_eq_left (by omega), List.drop_drop, Nat.add_mul, Nat.mul_assoc]
theorem lin_lt {a b x y : Nat} (hx : x < a) (hy : y < b) : y * a + x < b * a := by
 have : (y + 1) * a ≤ b * a := Nat.mul_le_mul_right a hy
 rw [Nat.add_mul, Nat.one_mul] at this
 omega
theorem lin_ne {a x y x' y' : Nat} (hx : x < a) (hx' : x' < a) (h : y * a + x = y' * a + x') : x = x' ∧ y = y' := by
 have ha : 0 < a := by omega
 have e1 := congrArg (· % a) h
 have e2 := congrArg (· / a) h
 simp only [Nat.mul_comm _ a, Nat.mul_add_mod, Nat.mul_add_div ha, Nat.mod_eq_of_lt hx, Nat.mod_eq_of_lt hx', Nat.div_eq_of_lt hx, Nat.div_eq_of_lt hx', Nat.add_zero] at e1 e2
 exact ⟨e1, e2⟩
theorem lin_of {a b i : Nat} (h : i < b * a) : i % a < a ∧ i / a < b ∧ (i / a) * a + i % a = i := by
 have ha : 0 < a := by
  rcases Nat.eq_zero_or_pos a with rfl | h'
  ·simp at h
  ·exact h'
 refine ⟨Nat.mod_lt _ ha, (Nat.div_lt_iff_lt_mul ha).2 h, ?_⟩
 rw [Nat.mul_comm]; exact Nat.div_add_mod i a
theorem ext_img {n a b : Nat} {d e : List Int} (hd : d.length = (b * a) * n) (he : e.length = (b * a) * n) (h : ∀ x y, x < a → y < b → nx n d (y * a + x) = nx n e (y * a + x)) : d = e := by
 refine ext_nx hd he (fun i hi => ?_)
 obtain ⟨h1, h2, h3⟩ := lin_of hi
 rw [← h3]
 exact h _ _ h1 h2
theorem nx_laid {n m : Nat} {d ys : List Int} (hd : d.length = m * n) (hy : ys.length = n) {j : Nat} (hj : j < m) {i : Nat} (hi : i < m) : nx n (laidOver d (j * n) ys) i = if i = j then ys else nx n d i := by
 have hj1 : (j + 1) * n ≤ m * n := Nat.mul_le_mul_right n hj
 have hi1 : (i + 1) * n ≤ m * n := Nat.mul_le_mul_right n hi
 rw [Nat.add_mul, Nat.one_mul] at hj1 hi1
 unfold nx laidOver
 have hlt : (d.take (j * n)).length = j * n := by rw [List.length_take]; omega
 by_cases c : i = j
 ·subst c
  rw [if_pos rfl]
  have e1 : (d.take (i * n) ++ (ys ++ d.drop (i * n + ys.length))).drop (i * n) = ys ++ d.drop (i * n + ys.length) := by
   rw [List.drop_append, List.drop_eq_nil_of_le (by omega), hlt, Nat.sub_self, List.drop_zero, List.nil_append]
  rw [e1, ← hy, List.take_left]
 ·rw [if_neg c]
  by_cases c2 : i < j
  ·have h1 : (i + 1) * n ≤ j * n := Nat.mul_le_mul_right n c2
   rw [Nat.add_mul, Nat.one_mul] at h1
   rw [List.drop_append_of_le_length (by omega), List.take_append_of_le_length (by rw [List.length_drop]; omega), List.drop_take, List.take_take, Nat.min_eq_left (by omega)]
  ·have h1 : (j + 1) * n ≤ i * n := Nat.mul_le_mul_right n (by omega)
   rw [Nat.add_mul, Nat.one_mul] at h1
   rw [← List.append_assoc, List.drop_append, List.drop_eq_nil_of_le (by rw [List.length_append, hlt, hy]; omega), List.nil_append, List.drop_drop, List.length_append, hlt, hy]
   congr 2
   omega
theorem nat_of {a b p : Int} {d : List Int} (hv : validI a b p d = true) : ∃ an bn pn : Nat, a = an ∧ b = bn ∧ p = pn ∧ 1 ≤ an ∧ an ≤ 16 ∧ 1 ≤ bn ∧ bn ≤ 16 ∧ 1 ≤ pn ∧ pn ≤ 4 ∧ d.length = (bn * an) * pn := by
 obtain ⟨hs, hl, _⟩ := (validI_iff a b p d).1 hv
 obtain ⟨an, rfl⟩ := Int.eq_ofNat_of_zero_le (show 0 ≤ a by omega)
 obtain ⟨bn, rfl⟩ := Int.eq_ofNat_of_zero_le (show 0 ≤ b by omega)
 obtain ⟨pn, rfl⟩ := Int.eq_ofNat_of_zero_le (show 0 ≤ p by omega)
 refine ⟨an, bn, pn, rfl, rfl, rfl, by omega, by omega, by omega, by omega, by omega, by omega, ?_⟩
 have : (d.length : Int) = ((an * bn * pn : Nat) : Int) := by rw [hl]; push_cast; rfl
 rw [Nat.mul_comm bn an]
 exact Int.ofNat.inj this
theorem small {an bn pn : Nat} (h1 : an ≤ 16) (h2 : bn ≤ 16) (h3 : pn ≤ 4) : (bn * an) * pn ≤ 1024 := by
 have := Nat.mul_le_mul (Nat.mul_le_mul h2 h1) h3
 omega
theorem pixJ_nat {an bn pn x y : Nat} (h1 : an ≤ 16) (h2 : bn ≤ 16) (h3 : pn ≤ 4) (hx : x < an) (hy : y < bn) : pixJ an pn x y = (((y * an + x) * pn : Nat) : Int) ∧ (y * an + x) * pn + pn ≤ (bn * an) * pn := by
 have hl := lin_lt hx hy
 have hm : (y * an + x + 1) * pn ≤ (bn * an) * pn := Nat.mul_le_mul_right pn hl
 rw [Nat.add_mul, Nat.one_mul] at hm
 have hs := small h1 h2 h3
 have hya : y * an ≤ 16 * 16 := Nat.mul_le_mul (by omega) (by omega)
 refine ⟨?_, hm⟩
 unfold pixJ
 have e1 : ((y : Int) * (an : Int)) = ((y * an : Nat) : Int) := by push_cast; rfl
 rw [e1, w64 (x := ((y * an : Nat) : Int)) (by omega) (by omega)]
 have e2 : ((y * an : Nat) : Int) + (x : Int) = ((y * an + x : Nat) : Int) := by push_cast; rfl
 rw [e2, w64 (x := ((y * an + x : Nat) : Int)) (by omega) (by omega)]
 have e3 : ((y * an + x : Nat) : Int) * (pn : Int) = (((y * an + x) * pn : Nat) : Int) := by push_cast; rfl
 rw [e3, w64 (by omega) (by omega)]
theorem pxAt_nat {an bn pn x y : Nat} (h1 : an ≤ 16) (h2 : bn ≤ 16) (h3 : pn ≤ 4) (hx : x < an) (hy : y < bn) (d : List Int) : pxAt an pn d x y = nx pn d (y * an + x) := by
 obtain ⟨hj, hm⟩ := pixJ_nat h1 h2 h3 hx hy
 have hs := small h1 h2 h3
 unfold pxAt pixT nx
 rw [hj, w64 (by omega) (by omega)]
 have : ((((y * an + x) * pn : Nat) : Int) + (pn : Int)).toNat = (y * an + x) * pn + pn := by omega
 rw [this, Int.toNat_natCast, List.drop_take]
 congr 1
 omega

/- What the reference does with pixels: reads, writes, parts and pastes. -/

theorem ev_run {σ ρ : Type} (n : Nat) (L : Nat → Nat → σ → Option ρ) (E : σ → Nat → Option ρ) (Inv : Nat → σ → Prop)
  (step : ∀ i s, i < n → Inv i s → ∃ s', Inv (i + 1) s' ∧ ∀ r, Ev (fun k => L k (i + 1) s') r → Ev (fun k => L k i s) r)
  (last : ∀ s, Inv n s → ∀ r, Ev (E s) r → Ev (fun k => L k n s) r) :
  ∀ d i s, i + d = n → Inv i s → ∃ s', Inv n s' ∧ ∀ r, Ev (E s') r → Ev (fun k => L k i s) r := by
 intro d
 induction d with
 | zero =>
  intro i s hi hinv
  have : i = n := by omega
  subst this
  exact ⟨s, hinv, last s hinv⟩
 | succ d ih =>
  intro i s hi hinv
  obtain ⟨s1, h1, h2⟩ := step i s (by omega) hinv
  obtain ⟨s2, h3, h4⟩ := ih (i + 1) s1 (by omega) h1
  exact ⟨s2, h3, fun r hr => h2 r (h4 r hr)⟩
theorem copyInts_px (l : List Int) (hl : l.length ≤ 1000000) : spec_copyInts.f l = some l := by
 unfold spec_copyInts.f
 simp only [Option.bind_some]
 rw [if_pos (by simp; omega)]
 simp
theorem laid_set (d ys : List Int) (j i : Nat) (hi : i < ys.length) (hj : j + ys.length ≤ d.length) : (laidOver d j (ys.take i)).set (j + i) ys[i] = laidOver d j (ys.take (i + 1)) := by
 have h1 : (ys.take i).length = i := by rw [List.length_take]; omega
 have h2 : (ys.take (i + 1)).length = i + 1 := by rw [List.length_take]; omega
 have h3 : (d.take j).length = j := by rw [List.length_take]; omega
 unfold laidOver
 rw [h1, h2, List.set_append_right _ _ (by omega), h3, Nat.add_sub_cancel_left, List.set_append_right _ _ (by omega), h1, Nat.sub_self, List.drop_eq_getElem_cons (show j + i < d.length by omega), List.set_cons_zero, List.take_succ_eq_append_getElem hi, List.append_assoc]
 rfl
theorem onImage_eq {an bn : Nat} (h1 : 1 ≤ an ∧ an ≤ 16) (h2 : 1 ≤ bn ∧ bn ≤ 16) (p : Int) (d : List Int) (x y : Int) : spec_onImage.f an bn p d x y = some (decide (0 ≤ x ∧ x < an ∧ 0 ≤ y ∧ y < bn)) := by
 unfold spec_onImage.f
 rw [w64 (x := (an : Int) - 1) (by omega) (by omega), w64 (x := (bn : Int) - 1) (by omega) (by omega), spec_inRangeI_eq, spec_inRangeI_eq]
 simp only [Option.bind_some]
 by_cases c : 0 ≤ x ∧ x ≤ (an : Int) - 1
 ·rw [if_pos (by simpa using c)]; congr 1; rw [Bool.eq_iff_iff]; simp; omega
 ·rw [if_neg (by simpa using c), decide_eq_false (by omega)]

/- What the program's and the reference's BlendNumber come to, over whole numbers alone. -/

def P255 (n : Int) : Int := (2 * n + 255) / 510
theorem part255_eq (n : Int) (h0 : 0 ≤ n) (h1 : n ≤ 10000000) : impl_part255.f n = some (P255 n) := by
 unfold impl_part255.f P255
 rw [w64 (x := 2 * n) (by omega) (by omega), w64 (x := 2 * n + 255) (by omega) (by omega), tdiv_nn _ _ (by omega), w64 (by omega) (by omega)]
theorem P255_range (n : Int) (h0 : 0 ≤ n) (h1 : n ≤ 65025) : 0 ≤ P255 n ∧ P255 n ≤ 255 := by unfold P255; omega
theorem prod_range (a b : Int) (ha : 0 ≤ a) (ha' : a ≤ 255) (hb : 0 ≤ b) (hb' : b ≤ 255) : 0 ≤ a * b ∧ a * b ≤ 65025 := by
 refine ⟨Int.mul_nonneg ha hb, ?_⟩
 have := Int.mul_le_mul ha' hb' hb (by omega : (0 : Int) ≤ 255)
 omega
def mixN (mode a b : Int) : Int :=
 if mode = 1 then P255 (a * b) else if mode = 2 then 255 - P255 ((255 - a) * (255 - b)) else if mode = 3 then min a b else if mode = 4 then max a b else b
theorem mixN_range (mode a b : Int) (ha : 0 ≤ a) (ha' : a ≤ 255) (hb : 0 ≤ b) (hb' : b ≤ 255) : 0 ≤ mixN mode a b ∧ mixN mode a b ≤ 255 := by
 have h1 := prod_range a b ha ha' hb hb'
 have h2 := prod_range (255 - a) (255 - b) (by omega) (by omega) (by omega) (by omega)
 have h3 := P255_range _ h1.1 h1.2
 have h4 := P255_range _ h2.1 h2.2
 unfold mixN
 split
 ·exact h3
 split
 ·omega
 split
 ·omega
 split
 ·omega
 ·omega
def coverN (mode a b alpha : Int) : Int := P255 (alpha * mixN mode a b + (255 - alpha) * a)
theorem cover_sum (m a alpha : Int) (ha : 0 ≤ a) (ha' : a ≤ 255) (hm : 0 ≤ m) (hm' : m ≤ 255) (h : 0 ≤ alpha) (h' : alpha ≤ 255) :
  255 * min a m ≤ alpha * m + (255 - alpha) * a ∧ alpha * m + (255 - alpha) * a ≤ 255 * max a m := by
 have e : (255 - alpha) * a = 255 * a - alpha * a := by rw [Int.sub_mul]
 rw [e]
 have k1 : alpha * m - alpha * a = alpha * (m - a) := by rw [Int.mul_sub]
 by_cases c : a ≤ m
 ·have i1 : 0 ≤ alpha * (m - a) := Int.mul_nonneg h (by omega)
  have i2 : alpha * (m - a) ≤ 255 * (m - a) := Int.mul_le_mul_of_nonneg_right h' (by omega)
  omega
 ·have i1 : 0 ≤ alpha * (a - m) := Int.mul_nonneg h (by omega)
  have i2 : alpha * (a - m) ≤ 255 * (a - m) := Int.mul_le_mul_of_nonneg_right h' (by omega)
  have k2 : alpha * m - alpha * a = -(alpha * (a - m)) := by rw [Int.mul_sub]; omega
  omega
theorem cover_between (mode a b alpha : Int) (ha : 0 ≤ a) (ha' : a ≤ 255) (hb : 0 ≤ b) (hb' : b ≤ 255) (h : 0 ≤ alpha) (h' : alpha ≤ 255) :
  min a (mixN mode a b) ≤ coverN mode a b alpha ∧ coverN mode a b alpha ≤ max a (mixN mode a b) := by
 have hm := mixN_range mode a b ha ha' hb hb'
 have hs := cover_sum (mixN mode a b) a alpha ha ha' hm.1 hm.2 h h'
 unfold coverN
 generalize mixN mode a b = m at *
 generalize alpha * m + (255 - alpha) * a = s at *
 unfold P255
 omega
theorem impl_sum (m a alpha : Int) (ha : 0 ≤ a) (ha' : a ≤ 255) (hm : 0 ≤ m) (hm' : m ≤ 255) (h : 0 ≤ alpha) (h' : alpha ≤ 255) :
  wrap64 (wrap64 (alpha * m) + wrap64 (wrap64 (255 - alpha) * a)) = alpha * m + (255 - alpha) * a ∧ 0 ≤ alpha * m + (255 - alpha) * a ∧ alpha * m + (255 - alpha) * a ≤ 65025 := by
 have h1 := prod_range alpha m h h' hm hm'
 have h2 := prod_range (255 - alpha) a (by omega) (by omega) ha ha'
 have h3 := cover_sum m a alpha ha ha' hm hm' h h'
 rw [w64 (x := 255 - alpha) (by omega) (by omega), w64 (x := alpha * m) (by omega) (by omega), w64 (x := (255 - alpha) * a) (by omega) (by omega), w64 (by omega) (by omega)]
 exact ⟨rfl, by omega, by omega⟩
theorem blended_eq (mode a b alpha : Int) (ha : 0 ≤ a) (ha' : a ≤ 255) (hb : 0 ≤ b) (hb' : b ≤ 255) (h : 0 ≤ alpha) (h' : alpha ≤ 255) :
  impl_blended.f mode a b alpha = some (coverN mode a b alpha) := by
 have p1 := prod_range a b ha ha' hb hb'
 have p2 := prod_range (255 - a) (255 - b) (by omega) (by omega) (by omega) (by omega)
 have hm := mixN_range mode a b ha ha' hb hb'
 have q1 := P255_range _ p1.1 p1.2
 have q2 := P255_range _ p2.1 p2.2
 unfold impl_blended.f coverN
 by_cases c1 : mode = 1
 ·rw [if_pos c1, w64 (by omega) (by omega), part255_eq _ p1.1 (by omega)]
  simp only [Option.bind_some]
  have e : mixN mode a b = P255 (a * b) := by simp [mixN, c1]
  rw [e]
  obtain ⟨s1, s2, s3⟩ := impl_sum (P255 (a * b)) a alpha ha ha' q1.1 q1.2 h h'
  rw [s1, part255_eq _ s2 (by omega)]; rfl
 rw [if_neg c1]
 by_cases c2 : mode = 2
 ·rw [if_pos c2, w64 (x := 255 - a) (by omega) (by omega), w64 (x := 255 - b) (by omega) (by omega), w64 (by omega) (by omega), part255_eq _ p2.1 (by omega)]
  simp only [Option.bind_some]
  have e : mixN mode a b = 255 - P255 ((255 - a) * (255 - b)) := by simp [mixN, c2]
  rw [e, w64 (x := 255 - P255 ((255 - a) * (255 - b))) (by omega) (by omega)]
  obtain ⟨s1, s2, s3⟩ := impl_sum (255 - P255 ((255 - a) * (255 - b))) a alpha ha ha' (by omega) (by omega) h h'
  rw [s1, part255_eq _ s2 (by omega)]; rfl
 rw [if_neg c2]
 by_cases c3 : mode = 3
 ·rw [if_pos c3]
  have e : mixN mode a b = mn a b := by simp [mixN, c3, mn_def]
  rw [e] at hm ⊢
  obtain ⟨s1, s2, s3⟩ := impl_sum (mn a b) a alpha ha ha' hm.1 hm.2 h h'
  rw [s1, part255_eq _ s2 (by omega)]; rfl
 rw [if_neg c3]
 by_cases c4 : mode = 4
 ·rw [if_pos c4]
  have e : mixN mode a b = mx a b := by simp [mixN, c4, mx_def]
  rw [e] at hm ⊢
  obtain ⟨s1, s2, s3⟩ := impl_sum (mx a b) a alpha ha ha' hm.1 hm.2 h h'
  rw [s1, part255_eq _ s2 (by omega)]; rfl
 rw [if_neg c4]
 have e : mixN mode a b = b := by simp [mixN, c1, c2, c3, c4]
 rw [e] at hm ⊢
 obtain ⟨s1, s2, s3⟩ := impl_sum b a alpha ha ha' hm.1 hm.2 h h'
 rw [s1, part255_eq _ s2 (by omega)]; rfl
theorem mix_eq (mode a b : Int) (ha : 0 ≤ a) (ha' : a ≤ 255) (hb : 0 ≤ b) (hb' : b ≤ 255) : spec_mix.f mode a b = some (mixN mode a b) := by
 have p1 := prod_range a b ha ha' hb hb'
 have p2 := prod_range (255 - a) (255 - b) (by omega) (by omega) (by omega) (by omega)
 have e1 : 2 * a * b = 2 * (a * b) := Int.mul_assoc ..
 have e2 : 2 * (255 - a) * (255 - b) = 2 * ((255 - a) * (255 - b)) := Int.mul_assoc ..
 unfold spec_mix.f mixN P255
 rw [mn_def, mx_def]
 repeat (split; · first
  | rfl
  | (rw [w64 (x := 2 * a) (by omega) (by omega), e1, w64 (x := 2 * (a * b)) (by omega) (by omega), w64 (x := 2 * (a * b) + 255) (by omega) (by omega), tdiv_nn _ _ (by omega), w64 (by omega) (by omega)])
  | (rw [w64 (x := 255 - a) (by omega) (by omega), w64 (x := 255 - b) (by omega) (by omega), w64 (x := 2 * (255 - a)) (by omega) (by omega), e2, w64 (x := 2 * ((255 - a) * (255 - b))) (by omega) (by omega), w64 (x := 2 * ((255 - a) * (255 - b)) + 255) (by omega) (by omega), tdiv_nn _ _ (by omega), w64 (x := (2 * ((255 - a) * (255 - b)) + 255) / 510) (by omega) (by omega), w64 (by omega) (by omega)]))
 rfl
theorem blend_eq (mode a b alpha : Int) (ha : 0 ≤ a) (ha' : a ≤ 255) (hb : 0 ≤ b) (hb' : b ≤ 255) (h : 0 ≤ alpha) (h' : alpha ≤ 255) :
  spec_blend.f mode a b alpha = some (coverN mode a b alpha) := by
 have hm := mixN_range mode a b ha ha' hb hb'
 unfold spec_blend.f coverN
 rw [mix_eq mode a b ha ha' hb hb']
 simp only [Option.bind_some]
 obtain ⟨s1, s2, s3⟩ := impl_sum (mixN mode a b) a alpha ha ha' hm.1 hm.2 h h'
 rw [s1]
 generalize alpha * mixN mode a b + (255 - alpha) * a = s at *
 unfold P255
 rw [w64 (x := 2 * s) (by omega) (by omega), w64 (x := 2 * s + 255) (by omega) (by omega), tdiv_nn _ _ (by omega), w64 (by omega) (by omega)]

/- Layers: valid ones, as the program and the reference have it; copies of a layer. -/

def layerV (w h p : Int) (d : List Int) (x y m a : Int) (pl : Int) : Bool := validI w h p d && decide (p = pl ∧ -16 ≤ x ∧ x ≤ 16 ∧ -16 ≤ y ∧ y ≤ 16 ∧ 0 ≤ m ∧ m ≤ 4 ∧ 0 ≤ a ∧ a ≤ 255)
theorem layerV_iff (w h p : Int) (d : List Int) (x y m a : Int) (pl : Int) : layerV w h p d x y m a pl = true ↔ validI w h p d = true ∧ p = pl ∧ -16 ≤ x ∧ x ≤ 16 ∧ -16 ≤ y ∧ y ≤ 16 ∧ 0 ≤ m ∧ m ≤ 4 ∧ 0 ≤ a ∧ a ≤ 255 := by simp [layerV]
theorem impl_isModeI_eq (m : Int) : impl_isMode.f m = some (decide (0 ≤ m ∧ m ≤ 4)) := by
 unfold impl_isMode.f
 by_cases c : m ≥ 0
 ·rw [if_pos c]; congr 1; rw [decide_eq_decide]; omega
 ·rw [if_neg c, decide_eq_false (by omega)]
theorem impl_isLayer_eq (w h p : Int) (d : List Int) (x y m a : Int) (b : Bool) (pl : Int) : impl_isLayer.f w h p d x y m a b pl = some (layerV w h p d x y m a pl) := by
 unfold impl_isLayer.f layerV
 rw [impl_isImage_eq, impl_isModeI_eq]
 simp only [Option.bind_some]
 by_cases c : validI w h p d = true
 ·rw [if_pos c, c, Bool.true_and]
  by_cases c1 : p = pl
  ·rw [if_pos c1]
   by_cases c2 : x ≥ -16
   ·rw [if_pos c2]
    by_cases c3 : x ≤ 16
    ·rw [if_pos c3]
     by_cases c4 : y ≥ -16
     ·rw [if_pos c4]
      by_cases c5 : y ≤ 16
      ·rw [if_pos c5]
       by_cases c6 : 0 ≤ m ∧ m ≤ 4
       ·rw [if_pos (by simpa using c6)]
        by_cases c7 : a ≥ 0
        ·rw [if_pos c7]; congr 1; rw [decide_eq_decide]; omega
        ·rw [if_neg c7, decide_eq_false (by omega)]
       ·rw [if_neg (by simpa using c6), decide_eq_false (by omega)]
      ·rw [if_neg c5, decide_eq_false (by omega)]
     ·rw [if_neg c4, decide_eq_false (by omega)]
    ·rw [if_neg c3, decide_eq_false (by omega)]
   ·rw [if_neg c2, decide_eq_false (by omega)]
  ·rw [if_neg c1, decide_eq_false (by omega)]
 ·rw [if_neg c, Bool.eq_false_iff.2 c, Bool.false_and]
theorem spec_validLayer_ev (w h p : Int) (d : List Int) (x y m a : Int) (b : Bool) (pl : Int) (hl : d.length ≤ 1000000000000) : Ev (fun k => spec_validLayer.f k w h p d x y m a b pl) (layerV w h p d x y m a pl) := by
 unfold spec_validLayer.f layerV
 refine ev_bind (spec_validImage_ev w h p d hl) ?_
 by_cases c : validI w h p d = true
 ·refine ev_pos c ?_
  rw [c, Bool.true_and]
  refine ev_const ?_
  rw [spec_inRangeI_eq, spec_inRangeI_eq, spec_inRangeI_eq, spec_inRangeI_eq]
  simp only [Option.bind_some]
  by_cases c1 : p = pl
  ·rw [if_pos c1]
   by_cases c2 : -16 ≤ x ∧ x ≤ 16
   ·rw [if_pos (by simpa using c2)]
    by_cases c3 : -16 ≤ y ∧ y ≤ 16
    ·rw [if_pos (by simpa using c3)]
     by_cases c4 : 0 ≤ m ∧ m ≤ 4
     ·rw [if_pos (by simpa using c4)]; congr 1; rw [Bool.eq_iff_iff]; simp; omega
     ·rw [if_neg (by simpa using c4), decide_eq_false (by omega)]
    ·rw [if_neg (by simpa using c3), decide_eq_false (by omega)]
   ·rw [if_neg (by simpa using c2), decide_eq_false (by omega)]
  ·rw [if_neg c1, decide_eq_false (by omega)]
 ·refine ev_neg c ?_
  rw [Bool.eq_false_iff.2 c, Bool.false_and]
  exact Ev.now _

/- CoverImage, as the program and the reference have it. -/

theorem cover_byte (mode a b alpha : Int) (ha : 0 ≤ a) (ha' : a ≤ 255) (hb : 0 ≤ b) (hb' : b ≤ 255) (h : 0 ≤ alpha) (h' : alpha ≤ 255) : 0 ≤ coverN mode a b alpha ∧ coverN mode a b alpha ≤ 255 := by
 have h1 := cover_between mode a b alpha ha ha' hb hb' h h'
 have h2 := mixN_range mode a b ha ha' hb hb'
 omega
def AllB (d : List Int) : Prop := ∀ n ∈ d, 0 ≤ n ∧ n ≤ 255
theorem allB_at {d : List Int} (h : AllB d) (i : Nat) (hi : i < d.length) : 0 ≤ d[i] ∧ d[i] ≤ 255 := h _ (List.getElem_mem hi)
theorem allB_nx {d : List Int} (h : AllB d) (n i : Nat) : AllB (nx n d i) := fun x hx => h x (List.mem_of_mem_drop (List.mem_of_mem_take hx))
theorem blV_cover {mode alpha n u : Int} (h1 : 0 ≤ alpha ∧ alpha ≤ 255) (h2 : 0 ≤ n ∧ n ≤ 255) (h3 : 0 ≤ u ∧ u ≤ 255) : blV mode alpha n u = coverN mode n u alpha := by
 unfold blV
 rw [blended_eq mode n u alpha h2.1 h2.2 h3.1 h3.2 h1.1 h1.2]
 rfl
def covL (mode alpha : Int) (l u : List Int) : List Int := List.zipWith (fun n m => coverN mode n m alpha) l u
theorem zip_cover {mode alpha : Int} (h1 : 0 ≤ alpha ∧ alpha ≤ 255) : ∀ {l u : List Int}, AllB l → AllB u → List.zipWith (blV mode alpha) l u = covL mode alpha l u := by
 intro l
 induction l with
 | nil => intro u _ _; rfl
 | cons x l ih =>
  intro u hl hu
  cases u with
  | nil => rfl
  | cons y u =>
   unfold covL at ih ⊢
   rw [List.zipWith_cons_cons, List.zipWith_cons_cons, blV_cover h1 (hl x (by simp)) (hu y (by simp)), ih (fun z hz => hl z (by simp [hz])) (fun z hz => hu z (by simp [hz]))]
theorem covL_len {mode alpha : Int} {l u : List Int} {n : Nat} (h1 : l.length = n) (h2 : u.length = n) : (covL mode alpha l u).length = n := by unfold covL; rw [List.length_zipWith]; omega
theorem covL_bytes {mode alpha : Int} (h1 : 0 ≤ alpha ∧ alpha ≤ 255) {l u : List Int} (hl : AllB l) (hu : AllB u) : AllB (covL mode alpha l u) := by
 intro z hz
 unfold covL at hz
 obtain ⟨i, hi, rfl⟩ := List.getElem_of_mem hz
 rw [List.length_zipWith] at hi
 rw [List.getElem_zipWith]
 have a := allB_at hl i (by omega)
 have b := allB_at hu i (by omega)
 exact cover_byte _ _ _ _ a.1 a.2 b.1 b.2 h1.1 h1.2
def covPx (an pn : Nat) (d : List Int) (X Y : Int) (wn hn : Nat) (e : List Int) (mode alpha : Int) (x y : Nat) : List Int :=
 if X ≤ (x : Int) ∧ (x : Int) < X + wn ∧ Y ≤ (y : Int) ∧ (y : Int) < Y + hn then covL mode alpha (nx pn d (y * an + x)) (nx pn e (((y : Int) - Y).toNat * wn + ((x : Int) - X).toNat)) else nx pn d (y * an + x)
theorem covPx_len {an bn pn wn hn : Nat} {d e : List Int} {X Y : Int} (mode alpha : Int) (hd : d.length = (bn * an) * pn) (he : e.length = (hn * wn) * pn) : ∀ x y, x < an → y < bn → (covPx an pn d X Y wn hn e mode alpha x y).length = pn := by
 intro x y hx hy
 unfold covPx
 split
 ·exact covL_len (nx_length hd (lin_lt hx hy)) (nx_length he (lin_lt (by omega) (by omega)))
 ·exact nx_length hd (lin_lt hx hy)
theorem coverPx_cov {an bn pn wn hn : Nat} (h1 : an ≤ 16) (h2 : bn ≤ 16) (h3 : pn ≤ 4) (h4 : wn ≤ 16) (h5 : hn ≤ 16) {d e : List Int} {X Y mode alpha : Int} (ha : 0 ≤ alpha ∧ alpha ≤ 255) (hd : AllB d) (he : AllB e) {x y : Nat} (hx : x < an) (hy : y < bn) :
  coverPx an pn d wn hn e X Y mode alpha x y = covPx an pn d X Y wn hn e mode alpha x y := by
 unfold coverPx covPx inBoxZ
 by_cases c : X ≤ (x : Int) ∧ (x : Int) < X + wn ∧ Y ≤ (y : Int) ∧ (y : Int) < Y + hn
 ·rw [if_pos c, if_pos (decide_eq_true c), pxAt_nat h1 h2 h3 hx hy, pxAt_nat h4 h5 h3 (by omega) (by omega)]
  exact zip_cover ha (allB_nx hd _ _) (allB_nx he _ _)
 ·rw [if_neg c, if_neg (by simpa using c), pxAt_nat h1 h2 h3 hx hy]
theorem laid_get (s zs : List Int) (j q : Nat) (hq : q < zs.length) (hj : j + zs.length ≤ s.length) : (laidOver s j (zs.take q)).getD (j + q) 0 = s.getD (j + q) 0 := by
 have h1 : (zs.take q).length = q := by rw [List.length_take]; omega
 have h2 : (s.take j).length = j := by rw [List.length_take]; omega
 unfold laidOver
 rw [List.getD_eq_getElem?_getD, List.getElem?_append_right (by omega), h2, Nat.add_sub_cancel_left, List.getElem?_append_right (by omega), h1, Nat.sub_self, List.getElem?_drop, Nat.add_zero, List.getD_eq_getElem?_getD]
theorem nx_getD (s : List Int) (n i q : Nat) (hq : q < n) : (nx n s i).getD q 0 = s.getD (i * n + q) 0 := by
 unfold nx
 rw [List.getD_eq_getElem?_getD, List.getElem?_take, if_pos hq, List.getElem?_drop, List.getD_eq_getElem?_getD]
theorem rd_getD (l : List Int) (i : Nat) : rd l (i : Int) = l.getD i 0 := by simp [rd]
theorem blendPx_ev {an bn pn wn hn : Nat} {X Y mode alpha : Int} (hid : Bool) (hal : 0 ≤ alpha ∧ alpha ≤ 255) (r c : Nat) (hr : r ≤ 16) (hc : c ≤ 16) (s e : List Int) (jd je : Nat) (hs1 : s.length ≤ 1024) (he1 : e.length ≤ 1024) (hm : jd * pn + pn ≤ s.length) (hme : je * pn + pn ≤ e.length) (hp : pn ≤ 4) (hdb : AllB (nx pn s jd)) (heb : AllB (nx pn e je))
  (hJ : wrap64 ((wrap64 ((wrap64 ((wrap64 ((wrap64 (Y + (r : Int))) * (an : Int))) + X)) + (c : Int))) * (pn : Int)) = ((jd * pn : Nat) : Int)) (hJe : wrap64 ((wrap64 ((wrap64 ((r : Int) * (wn : Int))) + (c : Int))) * (pn : Int)) = ((je * pn : Nat) : Int)) (res : List Int)
  (hres : Ev (fun k => spec_blendPaste.l1 k (r : Int) ((c + 1 : Nat) : Int) an bn pn (laidOver s (jd * pn) (covL mode alpha (nx pn s jd) (nx pn e je))) wn hn pn e X Y mode alpha hid) res) :
  Ev (fun k => spec_blendPaste.l2 k (r : Int) (c : Int) 0 an bn pn s wn hn pn e X Y mode alpha hid) res := by
 have HJ := Aside0.mk hJ
 have HJe := Aside0.mk hJe
 clear hJ hJe
 have hl1 : (nx pn s jd).length = pn := by unfold nx; rw [List.length_take, List.length_drop]; omega
 have hl2 : (nx pn e je).length = pn := by unfold nx; rw [List.length_take, List.length_drop]; omega
 obtain ⟨zs, hzs⟩ : ∃ zs, zs = covL mode alpha (nx pn s jd) (nx pn e je) := ⟨_, rfl⟩
 have hyl : zs.length = pn := by rw [hzs]; exact covL_len hl1 hl2
 rw [← hzs] at hres
 have hz : ∀ q (hq : q < pn), zs[q]'(by rw [hyl]; exact hq) = coverN mode ((nx pn s jd).getD q 0) ((nx pn e je).getD q 0) alpha := by
  intro q hq
  have hzq : zs[q]? = some (coverN mode ((nx pn s jd).getD q 0) ((nx pn e je).getD q 0) alpha) := by
   rw [hzs]
   unfold covL
   rw [List.getElem?_zipWith, List.getElem?_eq_getElem (show q < (nx pn s jd).length by omega), List.getElem?_eq_getElem (show q < (nx pn e je).length by omega), List.getD_eq_getElem?_getD, List.getElem?_eq_getElem (show q < (nx pn s jd).length by omega), List.getD_eq_getElem?_getD, List.getElem?_eq_getElem (show q < (nx pn e je).length by omega)]
   rfl
  rw [List.getElem?_eq_getElem (show q < zs.length by omega)] at hzq
  exact Option.some.inj hzq
 have hb : ∀ q, q < pn → (0 ≤ (nx pn s jd).getD q 0 ∧ (nx pn s jd).getD q 0 ≤ 255) ∧ (0 ≤ (nx pn e je).getD q 0 ∧ (nx pn e je).getD q 0 ≤ 255) := by
  intro q hq
  refine ⟨?_, ?_⟩
  ·rw [List.getD_eq_getElem?_getD, List.getElem?_eq_getElem (show q < (nx pn s jd).length by omega)]; exact allB_at hdb q (by omega)
  ·rw [List.getD_eq_getElem?_getD, List.getElem?_eq_getElem (show q < (nx pn e je).length by omega)]; exact allB_at heb q (by omega)
 have hg : ∀ q, q < pn → rd (laidOver s (jd * pn) (zs.take q)) ((jd * pn + q : Nat) : Int) = (nx pn s jd).getD q 0 := fun q hq => by rw [rd_getD, laid_get s zs _ q (by omega) (by omega), ← nx_getD s pn jd q hq]
 have hg2 : ∀ q, q < pn → rd e ((je * pn + q : Nat) : Int) = (nx pn e je).getD q 0 := fun q hq => by rw [rd_getD, ← nx_getD e pn je q hq]
 have hls : ∀ q, q < pn → (laidOver s (jd * pn) (zs.take q)).length = s.length := fun q hq => laidOver_length s _ _ (by rw [List.length_take]; omega)
 have hset : ∀ q (hq : q < pn), (laidOver s (jd * pn) (zs.take q)).set (jd * pn + q) (zs[q]'(by rw [hyl]; exact hq)) = laidOver s (jd * pn) (zs.take (q + 1)) := fun q hq => laid_set s zs (jd * pn) q (by omega) (by omega)
 clear hzs hdb heb
 generalize nx pn s jd = S at *
 generalize nx pn e je = E at *
 generalize hjp : jd * pn = j at *
 generalize hjq : je * pn = i at *
 clear hjp hjq
 obtain ⟨s2, hs2, hk⟩ := ev_run pn (fun k q s' => spec_blendPaste.l2 k (r : Int) (c : Int) (q : Int) an bn pn s' wn hn pn e X Y mode alpha hid) (fun s' k => spec_blendPaste.l1 k (r : Int) ((c + 1 : Nat) : Int) an bn pn s' wn hn pn e X Y mode alpha hid) (fun q s' => s' = laidOver s j (zs.take q))
  (by
   intro q s' hq hs'
   subst hs'
   refine ⟨_, hset q hq, fun res hres => Ev.step (fun k => ?_) hres⟩
   have b := hb q hq
   have hh := hls q hq
   have a1 := Aside0.mk (show wrap64 ((j : Int) + (q : Int)) = ((j + q : Nat) : Int) from by rw [w64 (by omega) (by omega)]; push_cast; rfl)
   have a2 := Aside0.mk (show wrap64 ((i : Int) + (q : Int)) = ((i + q : Nat) : Int) from by rw [w64 (by omega) (by omega)]; push_cast; rfl)
   have hp1 : (q : Int) < (pn : Int) := by omega
   have hp2 : (0 : Int) ≤ ((j + q : Nat) : Int) := by omega
   have hp3 : ((j + q : Nat) : Int) < ((laidOver s j (zs.take q)).length : Int) := by rw [hh]; omega
   have hp4 : (0 : Int) ≤ ((i + q : Nat) : Int) := by omega
   have hp5 : ((i + q : Nat) : Int) < (e.length : Int) := by omega
   simp only [spec_blendPaste.l2]
   rw [HJ.out, HJe.out, a1.out, a2.out, hg q hq, hg2 q hq, if_pos hp1, if_pos hp2, if_pos hp3, if_pos hp4, if_pos hp5, blend_eq mode _ _ alpha b.1.1 b.1.2 b.2.1 b.2.2 hal.1 hal.2]
   simp only [Option.bind_some]
   rw [← hz q hq, w64n q (by omega), Int.toNat_natCast])
  (by
   intro s' _ res hres
   refine Ev.step (fun k => ?_) hres
   simp only [spec_blendPaste.l2]
   rw [if_neg (by omega), w64n c (by omega)])
  pn 0 s (by omega) (by unfold laidOver; simp)
 rw [List.take_of_length_le (by omega)] at hs2
 subst hs2
 exact hk _ hres
theorem at_px2 {an pn x0 y0 r c : Nat} {X Y : Int} (h1 : an ≤ 16) (hy : y0 ≤ 16) (hx0 : X + (c : Int) = (x0 : Int)) (hy0 : Y + (r : Int) = (y0 : Int)) (hX : -16 ≤ X ∧ X ≤ 16) (hY : -16 ≤ Y ∧ Y ≤ 16) (hr : r ≤ 16) (hc : c ≤ 16) (hJ : pixJ an pn x0 y0 = (((y0 * an + x0) * pn : Nat) : Int)) :
  wrap64 ((wrap64 ((wrap64 ((wrap64 ((wrap64 (Y + (r : Int))) * (an : Int))) + X)) + (c : Int))) * (pn : Int)) = (((y0 * an + x0) * pn : Nat) : Int) := by
 rw [← hJ]
 unfold pixJ
 clear hJ
 have hya : y0 * an ≤ 16 * 16 := Nat.mul_le_mul hy h1
 rw [hy0, w64 (x := (y0 : Int)) (by omega) (by omega)]
 have e1 : ((y0 : Int) * (an : Int)) = ((y0 * an : Nat) : Int) := by push_cast; rfl
 rw [e1]
 clear e1
 generalize y0 * an = t at *
 rw [w64 (x := (t : Int)) (by omega) (by omega), w64 (x := (t : Int) + X) (by omega) (by omega), show (t : Int) + X + (c : Int) = (t : Int) + (x0 : Int) by omega]
theorem blendPaste_ev {an bn pn wn hn : Nat} {X Y mode alpha : Int} (hid : Bool) (h1 : 1 ≤ an ∧ an ≤ 16) (h2 : 1 ≤ bn ∧ bn ≤ 16) (h3 : pn ≤ 4) (h4 : wn ≤ 16) (h5 : hn ≤ 16) (hX : -16 ≤ X ∧ X ≤ 16) (hY : -16 ≤ Y ∧ Y ≤ 16) (hal : 0 ≤ alpha ∧ alpha ≤ 255) (d e : List Int) (hd : d.length = (bn * an) * pn) (he : e.length = (hn * wn) * pn) (hdb : AllB d) (heb : AllB e) :
  Ev (fun k => spec_blendPaste.f k an bn pn d wn hn pn e X Y mode alpha hid) (imgD (covPx an pn d X Y wn hn e mode alpha) an bn) := by
 unfold spec_blendPaste.f
 have hlen := covPx_len (X := X) (Y := Y) mode alpha hd he
 let I : Nat → Nat → List Int → Prop := fun r c s => s.length = (bn * an) * pn ∧ ∀ x y : Nat, x < an → y < bn → nx pn s (y * an + x) = if X ≤ (x : Int) ∧ (x : Int) < X + wn ∧ Y ≤ (y : Int) ∧ (y : Int) < Y + hn ∧ ((y : Int) < Y + r ∨ ((y : Int) = Y + r ∧ (x : Int) < X + c)) then covL mode alpha (nx pn d (y * an + x)) (nx pn e (((y : Int) - Y).toNat * wn + ((x : Int) - X).toNat)) else nx pn d (y * an + x)
 have inner : ∀ (r : Nat), r < hn → ∀ s : List Int, I r 0 s → ∃ s' : List Int, I (r + 1) 0 s' ∧
    ∀ res, Ev (fun k => spec_blendPaste.l0 k ((r + 1 : Nat) : Int) an bn pn s' wn hn pn e X Y mode alpha hid) res → Ev (fun k => spec_blendPaste.l1 k (r : Int) 0 an bn pn s wn hn pn e X Y mode alpha hid) res := by
  intro r hr s hs
  obtain ⟨s', i4, i5⟩ := ev_run wn (fun k c s => spec_blendPaste.l1 k (r : Int) (c : Int) an bn pn s wn hn pn e X Y mode alpha hid) (fun s k => spec_blendPaste.l0 k ((r + 1 : Nat) : Int) an bn pn s wn hn pn e X Y mode alpha hid) (fun c s => I r c s)
   (by
    intro c s hc ⟨hsl, i1⟩
    have w1 := w64 (x := X + (c : Int)) (by omega) (by omega)
    have w2 := w64 (x := Y + (r : Int)) (by omega) (by omega)
    by_cases on : 0 ≤ X + (c : Int) ∧ X + (c : Int) < an ∧ 0 ≤ Y + (r : Int) ∧ Y + (r : Int) < bn
    ·obtain ⟨x0, hx0⟩ := Int.eq_ofNat_of_zero_le on.1
     obtain ⟨y0, hy0⟩ := Int.eq_ofNat_of_zero_le on.2.2.1
     have hx0a : x0 < an := by omega
     have hy0b : y0 < bn := by omega
     have hel : (nx pn e (r * wn + c)).length = pn := nx_length he (lin_lt hc hr)
     have hdl : (nx pn d (y0 * an + x0)).length = pn := nx_length hd (lin_lt hx0a hy0b)
     have hlin := lin_lt hx0a hy0b
     obtain ⟨zs, hzs⟩ : ∃ zs, zs = covL mode alpha (nx pn d (y0 * an + x0)) (nx pn e (r * wn + c)) := ⟨_, rfl⟩
     have hyl : zs.length = pn := by rw [hzs]; exact covL_len hdl hel
     have hm : (y0 * an + x0 + 1) * pn ≤ (bn * an) * pn := Nat.mul_le_mul_right pn hlin
     rw [Nat.add_mul, Nat.one_mul] at hm
     have hme : (r * wn + c + 1) * pn ≤ (hn * wn) * pn := Nat.mul_le_mul_right pn (lin_lt hc hr)
     rw [Nat.add_mul, Nat.one_mul] at hme
     have sm := small h1.2 h2.2 h3
     have sme := small h4 h5 h3
     have hsd : nx pn s (y0 * an + x0) = nx pn d (y0 * an + x0) := by rw [i1 x0 y0 hx0a hy0b, if_neg (by omega)]
     refine ⟨laidOver s ((y0 * an + x0) * pn) zs, ⟨by rw [laidOver_length _ _ _ (by rw [hyl, hsl]; exact hm)]; exact hsl, ?_⟩, ?_⟩
     ·intro x y hx hy
      rw [nx_laid hsl hyl hlin (lin_lt hx hy)]
      by_cases q : x = x0 ∧ y = y0
      ·obtain ⟨rfl, rfl⟩ := q
       rw [if_pos rfl, if_pos (by omega), show ((y : Int) - Y).toNat = r by omega, show ((x : Int) - X).toNat = c by omega]
       exact hzs
      ·rw [if_neg (fun z => q (lin_ne hx hx0a z)), i1 x y hx hy]
       by_cases z : X ≤ (x : Int) ∧ (x : Int) < X + wn ∧ Y ≤ (y : Int) ∧ (y : Int) < Y + hn ∧ ((y : Int) < Y + r ∨ ((y : Int) = Y + r ∧ (x : Int) < X + c))
       ·rw [if_pos z, if_pos (by omega)]
       ·rw [if_neg z, if_neg (by omega)]
     ·intro res hres
      have HJ2 := Aside0.mk (at_px2 (X := X) (Y := Y) (x0 := x0) (y0 := y0) (r := r) (c := c) h1.2 (by omega) hx0 hy0 hX hY (by omega) (by omega) (pixJ_nat h1.2 h2.2 h3 hx0a hy0b).1)
      have HJe := Aside0.mk (pixJ_nat h4 h5 h3 hc hr).1
      have HB1 := Aside0.mk (show AllB (nx pn s (y0 * an + x0)) from by rw [hsd]; exact allB_nx hdb _ _)
      have q1 : s.length ≤ 1024 := by omega
      have q2 : e.length ≤ 1024 := by omega
      have q3 : (y0 * an + x0) * pn + pn ≤ s.length := by omega
      have q4 : (r * wn + c) * pn + pn ≤ e.length := by omega
      have HX1 := Aside0.mk (show zs = covL mode alpha (nx pn s (y0 * an + x0)) (nx pn e (r * wn + c)) from by rw [hzs, hsd])
      clear hzs hsd i1
      rw [HX1.out] at hres
      refine Ev.step (f := fun k => (spec_onImage.f an bn pn s (X + (c : Int)) (Y + (r : Int))).bind fun u => if u = true then spec_blendPaste.l2 k (r : Int) (c : Int) 0 an bn pn s wn hn pn e X Y mode alpha hid else spec_blendPaste.l1 k (r : Int) ((c + 1 : Nat) : Int) an bn pn s wn hn pn e X Y mode alpha hid) (fun k => ?_) (ev_now (onImage_eq h1 h2 _ _ _ _) (ev_pos (decide_eq_true on) (blendPx_ev hid hal r c (by omega) (by omega) s e (y0 * an + x0) (r * wn + c) q1 q2 q3 q4 h3 HB1.out (allB_nx heb _ _) HJ2.out HJe.out res hres)))
      simp only [spec_blendPaste.l1]
      rw [if_pos (by omega), w1, w2, w64n c (by omega)]
    ·refine ⟨s, ⟨hsl, fun x y hx hy => ?_⟩, ?_⟩
     ·rw [i1 x y hx hy]
      by_cases z : X ≤ (x : Int) ∧ (x : Int) < X + wn ∧ Y ≤ (y : Int) ∧ (y : Int) < Y + hn ∧ ((y : Int) < Y + r ∨ ((y : Int) = Y + r ∧ (x : Int) < X + c))
      ·rw [if_pos z, if_pos (by omega)]
      ·rw [if_neg z, if_neg (by omega)]
     ·intro res hres
      refine Ev.step (f := fun k => (spec_onImage.f an bn pn s (X + (c : Int)) (Y + (r : Int))).bind fun u => if u = true then spec_blendPaste.l2 k (r : Int) (c : Int) 0 an bn pn s wn hn pn e X Y mode alpha hid else spec_blendPaste.l1 k (r : Int) ((c + 1 : Nat) : Int) an bn pn s wn hn pn e X Y mode alpha hid) (fun k => ?_) (ev_now (onImage_eq h1 h2 _ _ _ _) (ev_neg (by simpa using on) hres))
      simp only [spec_blendPaste.l1]
      rw [if_pos (by omega), w1, w2, w64n c (by omega)])
   (by
    intro s _ res hres
    refine Ev.step (fun k => ?_) hres
    simp only [spec_blendPaste.l1]
    rw [if_neg (by omega), w64n r (by omega)])
   wn 0 s (by omega) hs
  refine ⟨s', ⟨i4.1, fun x y hx hy => ?_⟩, i5⟩
  rw [i4.2 x y hx hy]
  by_cases z : X ≤ (x : Int) ∧ (x : Int) < X + wn ∧ Y ≤ (y : Int) ∧ (y : Int) < Y + hn ∧ ((y : Int) < Y + r ∨ ((y : Int) = Y + r ∧ (x : Int) < X + wn))
  ·rw [if_pos z, if_pos (by omega)]
  ·rw [if_neg z, if_neg (by omega)]
 obtain ⟨s', i4, i5⟩ := ev_run hn (fun k r s => spec_blendPaste.l0 k (r : Int) an bn pn s wn hn pn e X Y mode alpha hid) (fun s _ => some s) (fun r s => I r 0 s)
  (by
   intro r s hr hs
   obtain ⟨s', i1, i2⟩ := inner r hr s hs
   refine ⟨s', i1, fun res hres => Ev.step (fun k => ?_) (i2 res hres)⟩
   simp only [spec_blendPaste.l0]
   rw [if_pos (by omega)])
  (by
   intro s _ res hres
   refine Ev.step (fun k => ?_) hres
   simp only [spec_blendPaste.l0]
   rw [if_neg (by omega)])
  hn 0 d (by omega) ⟨hd, fun x y hx hy => by rw [if_neg (by omega)]⟩
 have q : s' = imgD (covPx an pn d X Y wn hn e mode alpha) an bn := ext_img i4.1 (imgD_length hlen) (fun x y hx hy => by
  rw [i4.2 x y hx hy, nx_imgD hlen hx hy]
  unfold covPx
  by_cases z : X ≤ (x : Int) ∧ (x : Int) < X + wn ∧ Y ≤ (y : Int) ∧ (y : Int) < Y + hn
  ·rw [if_pos z, if_pos (by omega)]
  ·rw [if_neg z, if_neg (by omega)])
 subst q
 exact i5 _ (Ev.now _)
def coverV (a b p : Int) (d : List Int) (lw lh lp : Int) (ld : List Int) (X Y mode alpha : Int) : Int × Int × Int × List Int × Bool :=
 if validI a b p d = true ∧ layerV lw lh lp ld X Y mode alpha p = true then (a, b, p, imgD (covPx a.toNat p.toNat d X Y lw.toNat lh.toNat ld mode alpha) a.toNat b.toNat, true) else (0, 0, 0, [], false)
theorem impl_CoverImage_eq (a b p : Int) (d : List Int) (lw lh lp : Int) (ld : List Int) (X Y mode alpha : Int) (hid : Bool) : impl_CoverImage.f a b p d lw lh lp ld X Y mode alpha hid = some (coverV a b p d lw lh lp ld X Y mode alpha) := by
 unfold impl_CoverImage.f coverV
 rw [impl_isImage_eq, impl_isLayer_eq]
 simp only [Option.bind_some]
 by_cases c1 : validI a b p d = true
 ·rw [if_pos c1]
  by_cases c2 : layerV lw lh lp ld X Y mode alpha p = true
  ·rw [if_pos c2, if_pos ⟨c1, c2⟩]
   obtain ⟨hvl, rfl, hx1, hx2, hy1, hy2, _, _, ha1, ha2⟩ := (layerV_iff _ _ _ _ _ _ _ _ _).1 c2
   unfold impl_coverImage.f
   rw [if_pos ⟨c1, hvl, rfl, ⟨hx1, hx2⟩, hy1, hy2⟩]
   have hb1 := ((validI_iff _ _ _ _).1 c1).2.2
   have hb2 := ((validI_iff _ _ _ _).1 hvl).2.2
   obtain ⟨an, bn, pn, rfl, rfl, rfl, q1, q2, q3, q4, q5, q6, q7⟩ := nat_of c1
   obtain ⟨wn, hn, _, rfl, rfl, _, q11, q12, q13, q14, _, _, _⟩ := nat_of hvl
   simp only [Int.toNat_natCast, Option.bind_some]
   rw [imgD_congr (fun x y hx hy => coverPx_cov q2 q4 q6 q12 q14 ⟨ha1, ha2⟩ hb1 hb2 hx hy)]
  ·rw [if_neg c2, if_neg (fun h => c2 h.2)]
 ·rw [if_neg c1, if_neg (fun h => c1 h.1)]
end Go.Proofs.Ytnofkbbcbpjhfaa.Pure
