/- A part of the proof that the statement FnExactRedrawTilesSaid holds, under no condition of its own: The program's RedrawTiles and the reference's return the same, and what is returned is held by nobody else: over lists of numbers alone. -/
import Derived.Test.YtnofkbbcbpjhfaaCFnExactRedrawTiles1
import Derived.Test.YtnofkbbcbpjhfaaCFnExactRedrawTiles3
namespace Go.Proofs.Ytnofkbbcbpjhfaa.Q
open Go.RowKit Go.Proofs.YtnofkbbcbpjhfaaW.PrintWords Go.Proofs.YtnofkbbcbpjhfaaW.PrintLast Go.Proofs.YtnofkbbcbpjhfaaW.PrintMore
open Go.Proofs.YtnofkbbcbpjhfaaW.PrintWords.Aside0 (mk)
attribute [local go_sem] max2_int min2_int max_two min_two max_three min_three max_four min_four
set_option linter.unusedVariables false
set_option linter.unusedSimpArgs false
def laws_toLayerS.l0 : Nat → List S51 → List S55 → Int → Option ((List S55))
 | 0, _, _, _ => none
 | k + 1, x0, x3, x4 => if x4 < (x0.length : Int) then (if 0 ≤ x4 then ((laws_toLayer.f k ((rd_T51 x0 x4).f0.f0) ((rd_T51 x0 x4).f0.f1) ((rd_T51 x0 x4).f0.f2) ((rd_T51 x0 x4).f0.f3) ((rd_T51 x0 x4).f1) ((rd_T51 x0 x4).f2) ((rd_T51 x0 x4).f3) ((rd_T51 x0 x4).f4) ((rd_T51 x0 x4).f5)).bind fun btz0 => (if x4 < (x3.length : Int) then (laws_toLayerS.l0 k x0 (x3.set (x4 : Int).toNat (⟨(⟨btz0.1, btz0.2.1, btz0.2.2.1, btz0.2.2.2.1⟩ : S27), btz0.2.2.2.2.1, btz0.2.2.2.2.2.1, btz0.2.2.2.2.2.2.1, btz0.2.2.2.2.2.2.2.1, btz0.2.2.2.2.2.2.2.2⟩ : S55)) (wrap64 (x4 + 1))) else none)) else none) else (some x3)
def laws_toLayerS.f (k : Nat) (l0 : List S51) : Option ((List S55)) := if 0 ≤ (l0.length : Int) then (if ((l0.length : Int) : Int).toNat ≤ 3198579280802 then (laws_toLayerS.l0 k l0 (List.replicate ((l0.length : Int) : Int).toNat z55) 0) else none) else (none)
theorem laws_toLayerS.mono_l : ∀ k, (∀ y0 y1 y2, LeO (laws_toLayerS.l0 k y0 y1 y2) (laws_toLayerS.l0 (k + 1) y0 y1 y2))
 | 0 => fun _ _ _ r h => by simp [laws_toLayerS.l0] at h
 | k + 1 => by
  have ih0 := laws_toLayerS.mono_l k
  ·intro y0 y1 y2
   unfold laws_toLayerS.l0
   repeat' first | (with_reducible exact ih0 _ _ _) | (with_reducible exact laws_toLayer.mono _ _ _ _ _ _ _ _ _ _) | (with_reducible exact LeO.refl _) | (with_reducible refine LeO.ite ?_ ?_) | (with_reducible refine LeO.bind ?_ (fun _ => ?_))
theorem laws_toLayerS.mono : ∀ a0 k, LeO (laws_toLayerS.f k a0) (laws_toLayerS.f (k + 1) a0) := by
 intro a0 k
 have ih0 := laws_toLayerS.mono_l k
 unfold laws_toLayerS.f
 repeat' first | (with_reducible exact ih0 _ _ _) | (with_reducible exact LeO.refl _) | (with_reducible refine LeO.ite ?_ ?_)
set_option maxHeartbeats 8000000 in
set_option maxRecDepth 100000 in
theorem laws_toLayerS.calls (k : Nat) (A0 : Option Addr) (c0 : Nat) (l0 : List S51) (r : List S55) (w : World) (hr0 : Kd.C k51 w A0 l0.length l0) (hc0 : l0.length ≤ c0) (h : laws_toLayerS.f k l0 = some r) :
  Calls Try.prog 66 #[.slice A0 l0.length c0] w fun e w' => ∃ v0_ : Value, e = .returned v0_ ∧ Kd.S k55 55 w' w.heap.size (fun _ => True) v0_ r ∧ Below w.heap.size w w' := by
 have hu51 := Try.underlying51
 have hu55 := Try.underlying55
 have HR0 := mk hr0
 have HC0 := mk hc0
 clear hr0 hc0
 have HB := mk (Below.refl w.heap.size w)
 have H : (if 0 ≤ (l0.length : Int) then (if ((l0.length : Int) : Int).toNat ≤ 3198579280802 then (laws_toLayerS.l0 k l0 (List.replicate ((l0.length : Int) : Int).toNat z55) 0) else none) else none) = some r := h
 clear h
 by_cases c2 : 0 ≤ (l0.length : Int)
 ·rw [if_pos c2] at H
  have c2b0 := eq_true c2
  have c2b1 : decide (0 ≤ (l0.length : Int)) = true := decide_eq_true c2
  clear c2
  by_cases c3 : ((l0.length : Int) : Int).toNat ≤ 3198579280802
  ·rw [if_pos c3] at H
   have c3b0 := eq_true c3
   have c3b1 : decide (((l0.length : Int) : Int).toNat ≤ 3198579280802) = true := decide_eq_true c3
   clear c3
   obtain ⟨yz1, hyz0⟩ : ∃ y_ : List (S55), y_ = (List.replicate ((l0.length : Int) : Int).toNat z55) := ⟨_, rfl⟩
   replace H : (laws_toLayerS.l0 k l0 yz1 0) = some r := by (rw [hyz0]; with_reducible exact H)
   have Nyz0 := mk hyz0
   clear hyz0
   have H' := mk H
   clear H
   go_enter Try.func66, Try.ntmps66
   go_wp2_with (first | ((with_reducible refine gate_dst (N := 7) rfl ?_); refine Kd.S_make k55 _ 55 rfl (N := 7) rfl 81 _ _ rfl (l0.length : Int) rfl rfl Try.underlying81 (.agg #[(.int .i64 0), (.int .i64 0), (.int .i64 0), (.slice none 0 0), (.int .i64 0), (.int .i64 0), (.int .i64 0), (.int .i64 0), (.bool false)]) 88 info55 rfl (by decide) (by omega) z55 (ok := fun _ => True) (okp := fun _ => True) (k55_mkM _ _ _ z55 (Kd.R_nil _ _ _ _ _)) (fun _ hk => hk) trivial (of_decide_eq_true (by (with_reducible assumption))) (Nat.le_trans (Nat.mul_le_mul_right _ (of_decide_eq_true (by (with_reducible assumption)) : (l0.length : Int).toNat ≤ 3198579280802)) (by omega)) (Below.refl _ _) (Nat.le_refl _) ?_; intro vz0 w4 ho5 hb hg_ hnew_; clear hg_ hnew_; (rw [← Nyz0.out] at ho5); have HOz1 := mk (Kd.S_lower ho5 (below_size HB.out)); replace HB := mk (below_step HB.out hb); clear hb ho5))
   go_loopg [4] k (fun kq v4 w' => ∃ (x3_1 : List S55) (x4_1 : Int), v4 = .int .i64 x4_1 ∧ Aside0 (laws_toLayerS.l0 kq l0 x3_1 x4_1 = some r) ∧ Aside0 (kq ≤ k) ∧ Aside0 (Kd.S k55 55 w' w.heap.size (fun _ => True) vz0 x3_1) ∧ Aside0 (Below w.heap.size w w'))
   case atStart => exact ⟨(yz1), (0), (by rfl), H', ⟨Nat.le_refl _⟩, HOz1, HB⟩
   case round =>
    clear H'
    obtain ⟨x3_1, x4_1, rfl, HA, HK1, HO_3, HB⟩ := hrel
    cases gk with
    | zero => exact absurd HA.out (by simp [laws_toLayerS.l0])
    | succ k1 =>
     have H := HA.out
     clear HA
     simp only [laws_toLayerS.l0] at H
     by_cases c6 : x4_1 < (l0.length : Int)
     ·rw [if_pos c6] at H
      have c6b0 : decide (x4_1 < (l0.length : Int)) = true := decide_eq_true c6
      clear c6
      by_cases c7 : 0 ≤ x4_1
      ·rw [if_pos c7] at H
       have c7b0 : decide (0 ≤ x4_1) = true := decide_eq_true c7
       clear c7
       replace H := Option.bind_eq_some_iff.mp H
       obtain ⟨⟨tz1, tz2, tz3, tz0, tz4, tz5, tz6, tz7, tz8⟩, A80, H⟩ := H
       replace H : (if x4_1 < (x3_1.length : Int) then (laws_toLayerS.l0 k1 l0 (x3_1.set (x4_1 : Int).toNat (⟨(⟨tz1, tz2, tz3, tz0⟩ : S27), tz4, tz5, tz6, tz7, tz8⟩ : S55)) (wrap64 (x4_1 + 1))) else none) = some r := H
       have A8 := mk A80
       clear A80
       by_cases c9 : x4_1 < (x3_1.length : Int)
       ·rw [if_pos c9] at H
        have c9b0 : decide (x4_1 < (x3_1.length : Int)) = true := decide_eq_true c9
        clear c9
        obtain ⟨yz0, hyz1⟩ : ∃ y_ : List (S55), y_ = (x3_1.set (x4_1 : Int).toNat (⟨(⟨tz1, tz2, tz3, tz0⟩ : S27), tz4, tz5, tz6, tz7, tz8⟩ : S55)) := ⟨_, rfl⟩
        replace H : (laws_toLayerS.l0 k1 l0 yz0 (wrap64 (x4_1 + 1))) = some r := by (rw [hyz1]; with_reducible exact H)
        have Nyz1 := mk hyz1
        clear hyz1
        have H' := mk H
        clear H
        have p67004 : 0 ≤ (x4_1 : Int) := of_decide_eq_true (by (with_reducible assumption))
        have q67004 : x4_1 < (l0.length : Int) := of_decide_eq_true (by (with_reducible assumption))
        obtain ⟨ad67004, Az0, cz0, e67004, hx67004_0, hx67004_1, hx67004_2, hx67004_3, hx67004_4, hx67004_5, hx67004_6, hx67004_7, hx67004_8, hl67004_3, hi67004_3⟩ := at_T51 HR0.out x4_1 p67004 q67004
        cases e67004
        replace hx67004_0 := bc HB.out hx67004_0
        replace hx67004_1 := bc HB.out hx67004_1
        replace hx67004_2 := bc HB.out hx67004_2
        replace hx67004_3 := bc HB.out hx67004_3
        replace hx67004_4 := bc HB.out hx67004_4
        replace hx67004_5 := bc HB.out hx67004_5
        replace hx67004_6 := bc HB.out hx67004_6
        replace hx67004_7 := bc HB.out hx67004_7
        replace hx67004_8 := bc HB.out hx67004_8
        have HR67004_3 := mk hi67004_3
        have HC67004_3 := mk hl67004_3
        clear hi67004_3 hl67004_3
        replace p67004 := eq_true p67004
        replace q67004 := eq_true q67004
        go_wp2_with (first | ((with_reducible refine gate_callee (f := 41) rfl ?_); refine goesL_ (some 20) rfl rfl Try.func41 (by kernel_rfl) rfl #[.agg #[.int .i64 ((rd_T51 l0 x4_1).f0.f0), .int .i64 ((rd_T51 l0 x4_1).f0.f1), .int .i64 ((rd_T51 l0 x4_1).f0.f2), .slice Az0 ((rd_T51 l0 x4_1).f0.f3).length cz0, .int .i64 ((rd_T51 l0 x4_1).f1), .int .i64 ((rd_T51 l0 x4_1).f2), .int .i64 ((rd_T51 l0 x4_1).f3), .int .i64 ((rd_T51 l0 x4_1).f4), .bool ((rd_T51 l0 x4_1).f5)]] rfl (by (try simp only [List.map_toArray, List.map_cons, List.map_nil]); rfl) ?_; (with_reducible refine (laws_toLayer.calls k1 ((rd_T51 l0 x4_1).f0.f0) ((rd_T51 l0 x4_1).f0.f1) ((rd_T51 l0 x4_1).f0.f2) _ _ ((rd_T51 l0 x4_1).f0.f3) ((rd_T51 l0 x4_1).f1) ((rd_T51 l0 x4_1).f2) ((rd_T51 l0 x4_1).f3) ((rd_T51 l0 x4_1).f4) ((rd_T51 l0 x4_1).f5) tz1 tz2 tz3 tz0 tz4 tz5 tz6 tz7 tz8 _ ?side1 ?side2 A8.out).mono ?_); (case side1 => repeat (exact (Kd.C_below HR67004_3.out HB.out))); (case side2 => exact HC67004_3.out); rintro e w11 ⟨V_, rfl, ho0, hb⟩; obtain ⟨Av67009, cv67009, ev_⟩ := Kd.R_slice ho0; subst ev_; refine ⟨_, rfl, ?_⟩; replace HO_3 := mk (Kd.S_elder' HO_3.out (Kd.R_base ho0) hb); have HOz0 := mk (Kd.R_lower ho0 (below_size HB.out)); replace HB := mk (below_step HB.out hb); (try clear hb); (try clear ho0); have p10 : 0 ≤ (x4_1 : Int) := of_decide_eq_true (by (with_reducible assumption)); have q10 : (x4_1 : Int) < ((x3_1.length : Int) : Int) := of_decide_eq_true (by (with_reducible assumption)); obtain ⟨go10, co10, eo10, gb10, gl10, cl10, HG10⟩ := Kd.S_form HO_3.out (by omega); (cases eo10); have GB10 := mk gb10; have GG10 := mk HG10; clear gb10 gl10 HG10; obtain ⟨_, ce10, hcl10, hM10, hcc10, hfr10, _, _⟩ := Kd.S_elem HO_3.out z55 (x4_1 : Int) p10 q10; obtain ⟨ve10_3, rfl, ge10_3⟩ := k55_openM hM10; have hx10_0 : w11.cell? ⟨go10, (x4_1 : Int).toNat * 9, none⟩ = some (.int .i64 ((rd_T55 x3_1 x4_1).f0.f0)) := hcc10 0 _ rfl; have hx10_1 : w11.cell? ⟨go10, (x4_1 : Int).toNat * 9 + 1, none⟩ = some (.int .i64 ((rd_T55 x3_1 x4_1).f0.f1)) := hcc10 1 _ rfl; have hx10_2 : w11.cell? ⟨go10, (x4_1 : Int).toNat * 9 + 2, none⟩ = some (.int .i64 ((rd_T55 x3_1 x4_1).f0.f2)) := hcc10 2 _ rfl; have hx10_3 : w11.cell? ⟨go10, (x4_1 : Int).toNat * 9 + 3, none⟩ = some ve10_3 := hcc10 3 _ rfl; have hx10_4 : w11.cell? ⟨go10, (x4_1 : Int).toNat * 9 + 4, none⟩ = some (.int .i64 ((rd_T55 x3_1 x4_1).f1)) := hcc10 4 _ rfl; have hx10_5 : w11.cell? ⟨go10, (x4_1 : Int).toNat * 9 + 5, none⟩ = some (.int .i64 ((rd_T55 x3_1 x4_1).f2)) := hcc10 5 _ rfl; have hx10_6 : w11.cell? ⟨go10, (x4_1 : Int).toNat * 9 + 6, none⟩ = some (.int .i64 ((rd_T55 x3_1 x4_1).f3)) := hcc10 6 _ rfl; have hx10_7 : w11.cell? ⟨go10, (x4_1 : Int).toNat * 9 + 7, none⟩ = some (.int .i64 ((rd_T55 x3_1 x4_1).f4)) := hcc10 7 _ rfl; have hx10_8 : w11.cell? ⟨go10, (x4_1 : Int).toNat * 9 + 8, none⟩ = some (.bool ((rd_T55 x3_1 x4_1).f5)) := hcc10 8 _ rfl; have hf10_0 : w11.frozen? ⟨go10, (x4_1 : Int).toNat * 9, none⟩ = false := hfr10 0; have hf10_1 : w11.frozen? ⟨go10, (x4_1 : Int).toNat * 9 + 1, none⟩ = false := hfr10 1; have hf10_2 : w11.frozen? ⟨go10, (x4_1 : Int).toNat * 9 + 2, none⟩ = false := hfr10 2; have hf10_3 : w11.frozen? ⟨go10, (x4_1 : Int).toNat * 9 + 3, none⟩ = false := hfr10 3; have hf10_4 : w11.frozen? ⟨go10, (x4_1 : Int).toNat * 9 + 4, none⟩ = false := hfr10 4; have hf10_5 : w11.frozen? ⟨go10, (x4_1 : Int).toNat * 9 + 5, none⟩ = false := hfr10 5; have hf10_6 : w11.frozen? ⟨go10, (x4_1 : Int).toNat * 9 + 6, none⟩ = false := hfr10 6; have hf10_7 : w11.frozen? ⟨go10, (x4_1 : Int).toNat * 9 + 7, none⟩ = false := hfr10 7; have hf10_8 : w11.frozen? ⟨go10, (x4_1 : Int).toNat * 9 + 8, none⟩ = false := hfr10 8; clear hcl10 hcc10 hfr10 hM10; replace p10 := eq_true p10; replace q10 := eq_true q10; have n_ := mk (Kd.S_mono (ok' := (fun k_ => some k_ ≠ ((.slice Av67009 (tz0).length cv67009) : Value).ownBlock)) HO_3.out (fun k_ hk => hk.2)); clear HO_3; have HO_3 := n_; clear n_; have HX12 := mk (show Kd.S k55 55 w11 w.heap.size (fun k_ => (fun _ => True) k_ ∧ ¬ ((fun k_ => some k_ = ((.slice Av67009 (tz0).length cv67009) : Value).ownBlock)) k_) (.slice (some ⟨go10, 0, none⟩) x3_1.length co10) x3_1 from (by exact Kd.S_mono HO_3.out (fun k_ hk => ⟨trivial, fun e_ => hk e_⟩))); obtain ⟨oki12, ce12, hcl12, hM12, hcc12, hfr12, hoki12, hH12⟩ := Kd.S_elem HX12.out z55 (x4_1 : Int) (of_decide_eq_true (by (with_reducible assumption))) (by have h_ : (x4_1 : Int) < ((x3_1.length : Int) : Int) := of_decide_eq_true (by (with_reducible assumption)); exact h_); obtain ⟨ve12_3, rfl, ge12_3⟩ := k55_openM hM12; have HP12 := Kd.S_seg hH12 (of_decide_eq_true (by (with_reducible assumption))) (by have h_ : (x4_1 : Int) < ((x3_1.length : Int) : Int) := of_decide_eq_true (by (with_reducible assumption)); exact h_) (seg := [.int .i64 tz1, .int .i64 tz2, .int .i64 tz3, (.slice Av67009 (tz0).length cv67009), .int .i64 tz4, .int .i64 tz5, .int .i64 tz6, .int .i64 tz7, .bool tz8]) (j := 0) (show 9 ≤ 9 from by decide) (x' := (⟨(⟨tz1, tz2, tz3, tz0⟩ : S27), tz4, tz5, tz6, tz7, tz8⟩ : S55)) (k55_mkM _ _ _ (⟨(⟨tz1, tz2, tz3, tz0⟩ : S27), tz4, tz5, tz6, tz7, tz8⟩ : S55) (Kd.R_mono (Kd.R_tight rfl (Kd.R_mono (ok' := fun k_ => (fun _ => True) k_ ∧ k_ ≠ go10) (Kd.R_apart' HOz0.out (Kd.S_typed HO_3.out) (by decide)) (fun k_ hk => ⟨trivial, fun e_ => hk.2 (by rw [e_]; rfl)⟩))) (fun _ h_ => Or.inr h_))) (fun _ hk => hk) (fun k_ hk_ => ((Kd.R_mono (ok' := fun k_ => (fun _ => True) k_ ∧ k_ ≠ go10) (Kd.R_apart' HOz0.out (Kd.S_typed HO_3.out) (by decide)) (fun k_ hk => ⟨trivial, fun e_ => hk.2 (by rw [e_]; rfl)⟩))).1 k_ hk_.symm); have hx12_0 := hcc12 0 _ rfl; (try simp only [show (k55).sz = 9 from rfl, Nat.mul_one, Nat.add_zero] at hx12_0); have hf12_0 := hfr12 0; (try simp only [show (k55).sz = 9 from rfl, Nat.mul_one, Nat.add_zero] at hf12_0); have hx12_1 := hcc12 1 _ rfl; (try simp only [show (k55).sz = 9 from rfl, Nat.mul_one, Nat.add_zero] at hx12_1); have hf12_1 := hfr12 1; (try simp only [show (k55).sz = 9 from rfl, Nat.mul_one, Nat.add_zero] at hf12_1); have hx12_2 := hcc12 2 _ rfl; (try simp only [show (k55).sz = 9 from rfl, Nat.mul_one, Nat.add_zero] at hx12_2); have hf12_2 := hfr12 2; (try simp only [show (k55).sz = 9 from rfl, Nat.mul_one, Nat.add_zero] at hf12_2); have hx12_3 := hcc12 3 _ rfl; (try simp only [show (k55).sz = 9 from rfl, Nat.mul_one, Nat.add_zero] at hx12_3); have hf12_3 := hfr12 3; (try simp only [show (k55).sz = 9 from rfl, Nat.mul_one, Nat.add_zero] at hf12_3); have hx12_4 := hcc12 4 _ rfl; (try simp only [show (k55).sz = 9 from rfl, Nat.mul_one, Nat.add_zero] at hx12_4); have hf12_4 := hfr12 4; (try simp only [show (k55).sz = 9 from rfl, Nat.mul_one, Nat.add_zero] at hf12_4); have hx12_5 := hcc12 5 _ rfl; (try simp only [show (k55).sz = 9 from rfl, Nat.mul_one, Nat.add_zero] at hx12_5); have hf12_5 := hfr12 5; (try simp only [show (k55).sz = 9 from rfl, Nat.mul_one, Nat.add_zero] at hf12_5); have hx12_6 := hcc12 6 _ rfl; (try simp only [show (k55).sz = 9 from rfl, Nat.mul_one, Nat.add_zero] at hx12_6); have hf12_6 := hfr12 6; (try simp only [show (k55).sz = 9 from rfl, Nat.mul_one, Nat.add_zero] at hf12_6); have hx12_7 := hcc12 7 _ rfl; (try simp only [show (k55).sz = 9 from rfl, Nat.mul_one, Nat.add_zero] at hx12_7); have hf12_7 := hfr12 7; (try simp only [show (k55).sz = 9 from rfl, Nat.mul_one, Nat.add_zero] at hf12_7); have hx12_8 := hcc12 8 _ rfl; (try simp only [show (k55).sz = 9 from rfl, Nat.mul_one, Nat.add_zero] at hx12_8); have hf12_8 := hfr12 8; (try simp only [show (k55).sz = 9 from rfl, Nat.mul_one, Nat.add_zero] at hf12_8); clear hcl12 hcc12 hfr12 hM12 hoki12 hH12) | ((with_reducible refine gate_store (t := 55) (p := 21) rfl ?_); refine store_event (t := 55) (p := 21) (v := ?vo_w13) (w1 := (((((((((w11.setCell ⟨go10, (x4_1 : Int).toNat * 9, none⟩ (.int .i64 tz1)).setCell ⟨go10, (x4_1 : Int).toNat * 9 + 1, none⟩ (.int .i64 tz2)).setCell ⟨go10, (x4_1 : Int).toNat * 9 + 2, none⟩ (.int .i64 tz3)).setCell ⟨go10, (x4_1 : Int).toNat * 9 + 3, none⟩ ((.slice Av67009 (tz0).length cv67009))).setCell ⟨go10, (x4_1 : Int).toNat * 9 + 4, none⟩ (.int .i64 tz4)).setCell ⟨go10, (x4_1 : Int).toNat * 9 + 5, none⟩ (.int .i64 tz5)).setCell ⟨go10, (x4_1 : Int).toNat * 9 + 6, none⟩ (.int .i64 tz6)).setCell ⟨go10, (x4_1 : Int).toNat * 9 + 7, none⟩ (.int .i64 tz7)).setCell ⟨go10, (x4_1 : Int).toNat * 9 + 8, none⟩ (.bool tz8))) ?hg ?ho ?hn ?hr ?_; (case ho => rfl); (case hg => rfl); (case hn => rfl); (case hr => (go_simp; done)); intro w13 hw; have hg : w11.grownBy w13 (some go10) := (by rw [hw]; exact HP12.2); have hp_ : Kd.S k55 55 w13 w.heap.size (fun _ => True) (.slice (some ⟨go10, 0, none⟩) x3_1.length co10) yz0 := (by rw [hw, Nyz1.out]; exact HP12.1); clear HP12; have n0_ := mk (hp_); have n1_ := mk ((by rw [hw]; exact below_set (below_set (below_set (below_set (below_set (below_set (below_set (below_set (below_set HB.out GB10.out) GB10.out) GB10.out) GB10.out) GB10.out) GB10.out) GB10.out) GB10.out) GB10.out : Below w.heap.size w w13)); clear HO_3; clear HB; clear HOz0; have HO_3 := n0_; have HB := n1_; clear hg hw hp_))
        go_roundg k1
        case measure => have := HK1.out; omega
        case rel => exact ⟨(yz0), (wrap64 (x4_1 + 1)), (by rfl), H', ⟨by have := HK1.out; omega⟩, HO_3, HB⟩
       rw [if_neg c9] at H
       exact absurd H (by simp)
      rw [if_neg c7] at H
      exact absurd H (by simp)
     rw [if_neg c6] at H
     have c6b0 : decide (x4_1 < (l0.length : Int)) = false := decide_eq_false c6
     clear c6
     obtain rfl := Option.some.inj H
     go_wp2
     go_ret
     exact ⟨_, by rfl, by exact HO_3.out, by exact HB.out⟩
  rw [if_neg c3] at H
  exact absurd H (by simp)
 rw [if_neg c2] at H
 exact absurd H (by simp)


def laws_eqLayer.f (k : Nat) (a0_0 : Int) (a0_1 : Int) (a0_2 : Int) (l0_3 : List Int) (a0_4 : Int) (a0_5 : Int) (a0_6 : Int) (a0_7 : Int) (a0_8 : Bool) (a1_0 : Int) (a1_1 : Int) (a1_2 : Int) (l1_3 : List Int) (a1_4 : Int) (a1_5 : Int) (a1_6 : Int) (a1_7 : Int) (a1_8 : Bool) : Option Bool := (laws_eqImage.f k a0_0 a0_1 a0_2 l0_3 a1_0 a1_1 a1_2 l1_3).bind fun tz0 => (if tz0 = true then (if a0_4 = a1_4 then (if a0_5 = a1_5 then (if a0_6 = a1_6 then (if a0_7 = a1_7 then (if (a0_8 != a1_8) = true then (some false) else (some true)) else (some false)) else (some false)) else (some false)) else (some false)) else (some false))
theorem laws_eqLayer.mono : ∀ a0 a1 a2 a3 a4 a5 a6 a7 a8 a9 a10 a11 a12 a13 a14 a15 a16 a17 k, LeO (laws_eqLayer.f k a0 a1 a2 a3 a4 a5 a6 a7 a8 a9 a10 a11 a12 a13 a14 a15 a16 a17) (laws_eqLayer.f (k + 1) a0 a1 a2 a3 a4 a5 a6 a7 a8 a9 a10 a11 a12 a13 a14 a15 a16 a17) := by
 intro a0 a1 a2 a3 a4 a5 a6 a7 a8 a9 a10 a11 a12 a13 a14 a15 a16 a17 k
 unfold laws_eqLayer.f
 repeat' first | (with_reducible exact laws_eqImage.mono _ _ _ _ _ _ _ _ _) | (with_reducible exact LeO.refl _) | (with_reducible refine LeO.bind ?_ (fun _ => ?_))
set_option maxHeartbeats 8000000 in
set_option maxRecDepth 100000 in
theorem laws_eqLayer.calls (k : Nat) (a0_0 : Int) (a0_1 : Int) (a0_2 : Int) (A0_3 : Option Addr) (c0_3 : Nat) (l0_3 : List Int) (a0_4 : Int) (a0_5 : Int) (a0_6 : Int) (a0_7 : Int) (a0_8 : Bool) (a1_0 : Int) (a1_1 : Int) (a1_2 : Int) (A1_3 : Option Addr) (c1_3 : Nat) (l1_3 : List Int) (a1_4 : Int) (a1_5 : Int) (a1_6 : Int) (a1_7 : Int) (a1_8 : Bool) (r : Bool) (w : World) (hr0_3 : Kd.C (Kd.int .i64) w A0_3 l0_3.length l0_3) (hc0_3 : l0_3.length ≤ c0_3) (hr1_3 : Kd.C (Kd.int .i64) w A1_3 l1_3.length l1_3) (hc1_3 : l1_3.length ≤ c1_3) (h : laws_eqLayer.f k a0_0 a0_1 a0_2 l0_3 a0_4 a0_5 a0_6 a0_7 a0_8 a1_0 a1_1 a1_2 l1_3 a1_4 a1_5 a1_6 a1_7 a1_8 = some r) (hrt : r = true) :
  Calls Try.prog 44 #[.agg #[.int .i64 a0_0, .int .i64 a0_1, .int .i64 a0_2, .slice A0_3 l0_3.length c0_3, .int .i64 a0_4, .int .i64 a0_5, .int .i64 a0_6, .int .i64 a0_7, .bool a0_8], .agg #[.int .i64 a1_0, .int .i64 a1_1, .int .i64 a1_2, .slice A1_3 l1_3.length c1_3, .int .i64 a1_4, .int .i64 a1_5, .int .i64 a1_6, .int .i64 a1_7, .bool a1_8]] w fun e w' => e = .returned (.bool r) ∧ Below w.heap.size w w' := by
 have HRT := mk hrt
 clear hrt
 have hu55 := Try.underlying55
 have hu27 := Try.underlying27
 have HR0_3 := mk hr0_3
 have HC0_3 := mk hc0_3
 clear hr0_3 hc0_3
 have HR1_3 := mk hr1_3
 have HC1_3 := mk hc1_3
 clear hr1_3 hc1_3
 have HB := mk (Below.refl w.heap.size w)
 have H : ((laws_eqImage.f k a0_0 a0_1 a0_2 l0_3 a1_0 a1_1 a1_2 l1_3).bind fun tz0 => (if tz0 = true then (if a0_4 = a1_4 then (if a0_5 = a1_5 then (if a0_6 = a1_6 then (if a0_7 = a1_7 then (if (a0_8 != a1_8) = true then (some false) else (some true)) else (some false)) else (some false)) else (some false)) else (some false)) else (some false))) = some r := h
 clear h
 replace H := Option.bind_eq_some_iff.mp H
 obtain ⟨tz0, A30, H⟩ := H
 replace H : (if tz0 = true then (if a0_4 = a1_4 then (if a0_5 = a1_5 then (if a0_6 = a1_6 then (if a0_7 = a1_7 then (if (a0_8 != a1_8) = true then (some false) else (some true)) else (some false)) else (some false)) else (some false)) else (some false)) else (some false)) = some r := H
 have A3 := mk A30
 clear A30
 by_cases c4 : tz0 = true
 ·subst c4
  have H1 : (if a0_4 = a1_4 then (if a0_5 = a1_5 then (if a0_6 = a1_6 then (if a0_7 = a1_7 then (if (a0_8 != a1_8) = true then (some false) else (some true)) else (some false)) else (some false)) else (some false)) else (some false)) = some r := by rw [if_pos rfl] at H; exact H
  clear H
  have H := H1
  clear H1
  by_cases c5 : a0_4 = a1_4
  ·rw [if_pos c5] at H
   have c5b0 : (a0_4 == a1_4) = true := beq_iff_eq.mpr c5
   have c5b1 : (a0_4 != a1_4) = false := bne_eq_false_iff_eq.mpr c5
   clear c5
   by_cases c6 : a0_5 = a1_5
   ·rw [if_pos c6] at H
    have c6b0 : (a0_5 == a1_5) = true := beq_iff_eq.mpr c6
    have c6b1 : (a0_5 != a1_5) = false := bne_eq_false_iff_eq.mpr c6
    clear c6
    by_cases c7 : a0_6 = a1_6
    ·rw [if_pos c7] at H
     have c7b0 : (a0_6 == a1_6) = true := beq_iff_eq.mpr c7
     have c7b1 : (a0_6 != a1_6) = false := bne_eq_false_iff_eq.mpr c7
     clear c7
     by_cases c8 : a0_7 = a1_7
     ·rw [if_pos c8] at H
      have c8b0 : (a0_7 == a1_7) = true := beq_iff_eq.mpr c8
      have c8b1 : (a0_7 != a1_7) = false := bne_eq_false_iff_eq.mpr c8
      clear c8
      by_cases c9 : (a0_8 != a1_8) = true
      ·rw [if_pos c9] at H
       have c9b0 : (a0_8 != a1_8) = true := c9
       (try (have c9b1 : decide (a0_8 = a1_8) = false := by simpa using c9))
       (try (have c9b2 : (a0_8 == a1_8) = false := by simpa using c9))
       (try (have c9b3 : ¬ (a0_8 = a1_8) := by simpa using c9))
       clear c9
       exact absurd ((Option.some.inj H).trans HRT.out) (by decide)
      rw [if_neg c9] at H
      have c9b0 : (a0_8 != a1_8) = false := by simpa using c9
      (try (have c9b1 : decide (a0_8 = a1_8) = true := by simpa using c9))
      (try (have c9b2 : (a0_8 == a1_8) = true := by simpa using c9))
      clear c9
      obtain rfl := Option.some.inj H
      go_enter Try.func44, Try.ntmps44
      go_wp2_with (first | ((with_reducible refine gate_dst (N := 2) rfl ?_); refine box_event (by rfl) (N := 2) (by rfl) (cs := #[.int .i64 a0_0, .int .i64 a0_1, .int .i64 a0_2, .slice A0_3 l0_3.length c0_3, .int .i64 a0_4, .int .i64 a0_5, .int .i64 a0_6, .int .i64 a0_7, .bool a0_8]) (t := 55) (by go_simp; done) ?_; intro gbz0 hg w18 hbox hb; replace HB := mk (below_step HB.out hb); have BKz0 := mk (hbox); clear hb hbox hg) | ((with_reducible refine gate_dst (N := 3) rfl ?_); refine box_event (by rfl) (N := 3) (by rfl) (cs := #[.int .i64 a1_0, .int .i64 a1_1, .int .i64 a1_2, .slice A1_3 l1_3.length c1_3, .int .i64 a1_4, .int .i64 a1_5, .int .i64 a1_6, .int .i64 a1_7, .bool a1_8]) (t := 55) (by go_simp; done) ?_; intro gbz1 hg w19 hbox hb; replace BKz0 := mk (blk_below BKz0.out hb); replace HB := mk (below_step HB.out hb); have BKz1 := mk (hbox); clear hb hbox hg; obtain ⟨hcz21_0, hcz21_1, hcz21_2, hcz21_3, -⟩ := c9 BKz0.out; obtain ⟨hcz22_0, hcz22_1, hcz22_2, -⟩ := c9 BKz1.out; have hcz22_3 : w19.cell? ⟨gbz1, 3, none⟩ = some (.slice A1_3 l1_3.length c1_3) := (blk_cell BKz1.out 3).trans rfl) | ((with_reducible refine gate_callee (f := 24) rfl ?_); refine goesL_ (some 9) rfl rfl Try.func24 (by kernel_rfl) rfl #[.agg #[.int .i64 a0_0, .int .i64 a0_1, .int .i64 a0_2, .slice A0_3 l0_3.length c0_3], .agg #[.int .i64 a1_0, .int .i64 a1_1, .int .i64 a1_2, .slice A1_3 l1_3.length c1_3]] rfl (by (try simp only [List.map_toArray, List.map_cons, List.map_nil]); rfl) ?_; (with_reducible refine (laws_eqImage.calls k a0_0 a0_1 a0_2 _ _ l0_3 a1_0 a1_1 a1_2 _ _ l1_3 true _ ?side1 ?side2 ?side3 ?side4 A3.out rfl).mono ?_); (case side1 => repeat (exact (Kd.C_below HR0_3.out HB.out))); (case side2 => exact HC0_3.out); (case side3 => repeat (exact (Kd.C_below HR1_3.out HB.out))); (case side4 => exact HC1_3.out); rintro e w23 ⟨rfl, hb⟩; refine ⟨_, rfl, ?_⟩; replace BKz0 := mk (blk_below BKz0.out hb); replace BKz1 := mk (blk_below BKz1.out hb); replace HB := mk (below_step HB.out hb); (try clear hb); obtain ⟨-, -, -, -, hcz24_4, hcz24_5, hcz24_6, hcz24_7, hcz24_8, -⟩ := c9 BKz0.out; obtain ⟨-, -, -, -, hcz25_4, hcz25_5, hcz25_6, hcz25_7, hcz25_8, -⟩ := c9 BKz1.out))
      go_ret
      exact ⟨by rfl, by exact HB.out⟩
     rw [if_neg c8] at H
     have c8b0 : (a0_7 == a1_7) = false := beq_eq_false_iff_ne.mpr c8
     have c8b1 : (a0_7 != a1_7) = true := bne_iff_ne.mpr c8
     exact absurd ((Option.some.inj H).trans HRT.out) (by decide)
    rw [if_neg c7] at H
    have c7b0 : (a0_6 == a1_6) = false := beq_eq_false_iff_ne.mpr c7
    have c7b1 : (a0_6 != a1_6) = true := bne_iff_ne.mpr c7
    exact absurd ((Option.some.inj H).trans HRT.out) (by decide)
   rw [if_neg c6] at H
   have c6b0 : (a0_5 == a1_5) = false := beq_eq_false_iff_ne.mpr c6
   have c6b1 : (a0_5 != a1_5) = true := bne_iff_ne.mpr c6
   exact absurd ((Option.some.inj H).trans HRT.out) (by decide)
  rw [if_neg c5] at H
  have c5b0 : (a0_4 == a1_4) = false := beq_eq_false_iff_ne.mpr c5
  have c5b1 : (a0_4 != a1_4) = true := bne_iff_ne.mpr c5
  exact absurd ((Option.some.inj H).trans HRT.out) (by decide)
 replace c4 := Bool.eq_false_iff.mpr c4
 subst c4
 have H1 : (some false) = some r := by rw [if_neg (show ¬ (false = true) by decide)] at H; exact H
 clear H
 have H := H1
 clear H1
 exact absurd ((Option.some.inj H).trans HRT.out) (by decide)


def laws_eqLayerS.l0 : Nat → List S55 → List S55 → Int → Option (Bool)
 | 0, _, _, _ => none
 | k + 1, x0, x1, x5 => if x5 < (x0.length : Int) then (if 0 ≤ x5 then (if x5 < (x1.length : Int) then ((laws_eqLayer.f k ((rd_T55 x0 x5).f0.f0) ((rd_T55 x0 x5).f0.f1) ((rd_T55 x0 x5).f0.f2) ((rd_T55 x0 x5).f0.f3) ((rd_T55 x0 x5).f1) ((rd_T55 x0 x5).f2) ((rd_T55 x0 x5).f3) ((rd_T55 x0 x5).f4) ((rd_T55 x0 x5).f5) ((rd_T55 x1 x5).f0.f0) ((rd_T55 x1 x5).f0.f1) ((rd_T55 x1 x5).f0.f2) ((rd_T55 x1 x5).f0.f3) ((rd_T55 x1 x5).f1) ((rd_T55 x1 x5).f2) ((rd_T55 x1 x5).f3) ((rd_T55 x1 x5).f4) ((rd_T55 x1 x5).f5)).bind fun tz0 => (if tz0 = true then (laws_eqLayerS.l0 k x0 x1 (wrap64 (x5 + 1))) else (some false))) else none) else none) else (some true)
def laws_eqLayerS.f (k : Nat) (l0 : List S55) (l1 : List S55) : Option Bool := if (l0.length : Int) = (l1.length : Int) then (laws_eqLayerS.l0 k l0 l1 0) else (some false)
theorem laws_eqLayerS.mono_l : ∀ k, (∀ y0 y1 y2, LeO (laws_eqLayerS.l0 k y0 y1 y2) (laws_eqLayerS.l0 (k + 1) y0 y1 y2))
 | 0 => fun _ _ _ r h => by simp [laws_eqLayerS.l0] at h
 | k + 1 => by
  have ih0 := laws_eqLayerS.mono_l k
  ·intro y0 y1 y2
   unfold laws_eqLayerS.l0
   repeat' first | (with_reducible exact ih0 _ _ _) | (with_reducible exact laws_eqLayer.mono _ _ _ _ _ _ _ _ _ _ _ _ _ _ _ _ _ _ _) | (with_reducible exact LeO.refl _) | (with_reducible refine LeO.ite ?_ ?_) | (with_reducible refine LeO.bind ?_ (fun _ => ?_))
theorem laws_eqLayerS.mono : ∀ a0 a1 k, LeO (laws_eqLayerS.f k a0 a1) (laws_eqLayerS.f (k + 1) a0 a1) := by
 intro a0 a1 k
 have ih0 := laws_eqLayerS.mono_l k
 unfold laws_eqLayerS.f
 repeat' first | (with_reducible exact ih0 _ _ _) | (with_reducible exact LeO.refl _) | (with_reducible refine LeO.ite ?_ ?_)
def laws_eqLayerS.T6 : Bool × List (List Nat × List Nat) := (true, [([], []), ([], []), ([0, 1], [0, 1]), ([2], [2]), ([], []), ([], []), ([4, 5], [4, 5]), ([6], [6]), ([3, 7], [3, 7]), ([8], [8])])
def laws_eqLayerS.B6 : List Nat := [0, 0, 3, 7, 0, 0, 48, 112, 255, 511]
theorem laws_eqLayerS.tab6 : rtab .any (opsOf Try.f68 6) = laws_eqLayerS.T6 := by kernel_rfl
theorem laws_eqLayerS.bits6 : waitsOk laws_eqLayerS.T6.2 laws_eqLayerS.B6 = true := by kernel_rfl
set_option maxHeartbeats 8000000 in
set_option maxRecDepth 100000 in
theorem laws_eqLayerS.calls (k : Nat) (A0 : Option Addr) (c0 : Nat) (l0 : List S55) (A1 : Option Addr) (c1 : Nat) (l1 : List S55) (r : Bool) (w : World) (hr0 : Kd.C k55 w A0 l0.length l0) (hc0 : l0.length ≤ c0) (hr1 : Kd.C k55 w A1 l1.length l1) (hc1 : l1.length ≤ c1) (h : laws_eqLayerS.f k l0 l1 = some r) (hrt : r = true) :
  Calls Try.prog 68 #[.slice A0 l0.length c0, .slice A1 l1.length c1] w fun e w' => e = .returned (.bool r) ∧ Below w.heap.size w w' := by
 have HRT := mk hrt
 clear hrt
 have hu55 := Try.underlying55
 have HR0 := mk hr0
 have HC0 := mk hc0
 clear hr0 hc0
 have HR1 := mk hr1
 have HC1 := mk hc1
 clear hr1 hc1
 have HB := mk (Below.refl w.heap.size w)
 have H : (if (l0.length : Int) = (l1.length : Int) then (laws_eqLayerS.l0 k l0 l1 0) else (some false)) = some r := h
 clear h
 by_cases c3 : (l0.length : Int) = (l1.length : Int)
 ·rw [if_pos c3] at H
  have c3b0 : ((l0.length : Int) == (l1.length : Int)) = true := beq_iff_eq.mpr c3
  have c3b1 : ((l0.length : Int) != (l1.length : Int)) = false := bne_eq_false_iff_eq.mpr c3
  have c3b2 : (l0.length == l1.length) = true := by (simp at c3 ⊢; omega)
  clear c3
  have H' := mk H
  clear H
  go_enter Try.func68, Try.ntmps68
  go_wp2
  go_loopg [5] k (fun kq v5 w' => ∃ (x5_1 : Int), v5 = .int .i64 x5_1 ∧ Aside0 (laws_eqLayerS.l0 kq l0 l1 x5_1 = some r) ∧ Aside0 (kq ≤ k) ∧ Aside0 (Below w.heap.size w w'))
  case atStart => exact ⟨(0), (by rfl), H', ⟨Nat.le_refl _⟩, HB⟩
  case round =>
   clear H'
   obtain ⟨x5_1, rfl, HA, HK1, HB⟩ := hrel
   cases gk with
   | zero => exact absurd HA.out (by simp [laws_eqLayerS.l0])
   | succ k1 =>
    have H := HA.out
    clear HA
    simp only [laws_eqLayerS.l0] at H
    by_cases c4 : x5_1 < (l0.length : Int)
    ·rw [if_pos c4] at H
     have c4b0 : decide (x5_1 < (l0.length : Int)) = true := decide_eq_true c4
     clear c4
     by_cases c5 : 0 ≤ x5_1
     ·rw [if_pos c5] at H
      have c5b0 : decide (0 ≤ x5_1) = true := decide_eq_true c5
      clear c5
      by_cases c6 : x5_1 < (l1.length : Int)
      ·rw [if_pos c6] at H
       have c6b0 : decide (x5_1 < (l1.length : Int)) = true := decide_eq_true c6
       clear c6
       replace H := Option.bind_eq_some_iff.mp H
       obtain ⟨tz0, A70, H⟩ := H
       replace H : (if tz0 = true then (laws_eqLayerS.l0 k1 l0 l1 (wrap64 (x5_1 + 1))) else (some false)) = some r := H
       have A7 := mk A70
       clear A70
       by_cases c8 : tz0 = true
       ·subst c8
        have H1 : (laws_eqLayerS.l0 k1 l0 l1 (wrap64 (x5_1 + 1))) = some r := by rw [if_pos rfl] at H; exact H
        clear H
        have H := H1
        clear H1
        have H' := mk H
        clear H
        try go_wp2
        replace HB := mk (below_drew1 HB.out)
        have p69001 : 0 ≤ (x5_1 : Int) := of_decide_eq_true (by (with_reducible assumption))
        have q69001 : x5_1 < (l0.length : Int) := of_decide_eq_true (by (with_reducible assumption))
        obtain ⟨ad69001, Az0, cz0, e69001, hx69001_0, hx69001_1, hx69001_2, hx69001_3, hx69001_4, hx69001_5, hx69001_6, hx69001_7, hx69001_8, hl69001_3, hi69001_3⟩ := at_T55 HR0.out x5_1 p69001 q69001
        have hw69001_8 := hx69001_8
        have hw69001_7 := hx69001_7
        have hw69001_6 := hx69001_6
        have hw69001_5 := hx69001_5
        have hw69001_4 := hx69001_4
        have hw69001_3 := hx69001_3
        have hw69001_2 := hx69001_2
        have hw69001_1 := hx69001_1
        have hw69001_0 := hx69001_0
        cases e69001
        replace hx69001_0 := bc HB.out hx69001_0
        replace hx69001_1 := bc HB.out hx69001_1
        replace hx69001_2 := bc HB.out hx69001_2
        replace hx69001_3 := bc HB.out hx69001_3
        replace hx69001_4 := bc HB.out hx69001_4
        replace hx69001_5 := bc HB.out hx69001_5
        replace hx69001_6 := bc HB.out hx69001_6
        replace hx69001_7 := bc HB.out hx69001_7
        replace hx69001_8 := bc HB.out hx69001_8
        have HR69001_3 := mk hi69001_3
        have HC69001_3 := mk hl69001_3
        clear hi69001_3 hl69001_3
        replace p69001 := eq_true p69001
        replace q69001 := eq_true q69001
        have p69002 : 0 ≤ (x5_1 : Int) := of_decide_eq_true (by (with_reducible assumption))
        have q69002 : x5_1 < (l1.length : Int) := of_decide_eq_true (by (with_reducible assumption))
        obtain ⟨ad69002, Az1, cz1, e69002, hx69002_0, hx69002_1, hx69002_2, hx69002_3, hx69002_4, hx69002_5, hx69002_6, hx69002_7, hx69002_8, hl69002_3, hi69002_3⟩ := at_T55 HR1.out x5_1 p69002 q69002
        have hw69002_8 := hx69002_8
        have hw69002_7 := hx69002_7
        have hw69002_6 := hx69002_6
        have hw69002_5 := hx69002_5
        have hw69002_4 := hx69002_4
        have hw69002_3 := hx69002_3
        have hw69002_2 := hx69002_2
        have hw69002_1 := hx69002_1
        have hw69002_0 := hx69002_0
        cases e69002
        replace hx69002_0 := bc HB.out hx69002_0
        replace hx69002_1 := bc HB.out hx69002_1
        replace hx69002_2 := bc HB.out hx69002_2
        replace hx69002_3 := bc HB.out hx69002_3
        replace hx69002_4 := bc HB.out hx69002_4
        replace hx69002_5 := bc HB.out hx69002_5
        replace hx69002_6 := bc HB.out hx69002_6
        replace hx69002_7 := bc HB.out hx69002_7
        replace hx69002_8 := bc HB.out hx69002_8
        have HR69002_3 := mk hi69002_3
        have HC69002_3 := mk hl69002_3
        clear hi69002_3 hl69002_3
        replace p69002 := eq_true p69002
        replace q69002 := eq_true q69002
        refine start_ (n := 10) (S := fun w' => w'.cell? (ad69001.add ((x5_1).toNat * 9)) = some (.int .i64 ((rd_T55 l0 x5_1).f0.f0)) ∧ w'.cell? ⟨(ad69001.add ((x5_1).toNat * 9)).block, (ad69001.add ((x5_1).toNat * 9)).off + 1, none⟩ = some (.int .i64 ((rd_T55 l0 x5_1).f0.f1)) ∧ w'.cell? ⟨(ad69001.add ((x5_1).toNat * 9)).block, (ad69001.add ((x5_1).toNat * 9)).off + 2, none⟩ = some (.int .i64 ((rd_T55 l0 x5_1).f0.f2)) ∧ w'.cell? ⟨(ad69001.add ((x5_1).toNat * 9)).block, (ad69001.add ((x5_1).toNat * 9)).off + 3, none⟩ = some (.slice Az0 ((rd_T55 l0 x5_1).f0.f3).length cz0) ∧ w'.cell? ⟨(ad69001.add ((x5_1).toNat * 9)).block, (ad69001.add ((x5_1).toNat * 9)).off + 4, none⟩ = some (.int .i64 ((rd_T55 l0 x5_1).f1)) ∧ w'.cell? ⟨(ad69001.add ((x5_1).toNat * 9)).block, (ad69001.add ((x5_1).toNat * 9)).off + 5, none⟩ = some (.int .i64 ((rd_T55 l0 x5_1).f2)) ∧ w'.cell? ⟨(ad69001.add ((x5_1).toNat * 9)).block, (ad69001.add ((x5_1).toNat * 9)).off + 6, none⟩ = some (.int .i64 ((rd_T55 l0 x5_1).f3)) ∧ w'.cell? ⟨(ad69001.add ((x5_1).toNat * 9)).block, (ad69001.add ((x5_1).toNat * 9)).off + 7, none⟩ = some (.int .i64 ((rd_T55 l0 x5_1).f4)) ∧ w'.cell? ⟨(ad69001.add ((x5_1).toNat * 9)).block, (ad69001.add ((x5_1).toNat * 9)).off + 8, none⟩ = some (.bool ((rd_T55 l0 x5_1).f5)) ∧ w'.cell? (ad69002.add ((x5_1).toNat * 9)) = some (.int .i64 ((rd_T55 l1 x5_1).f0.f0)) ∧ w'.cell? ⟨(ad69002.add ((x5_1).toNat * 9)).block, (ad69002.add ((x5_1).toNat * 9)).off + 1, none⟩ = some (.int .i64 ((rd_T55 l1 x5_1).f0.f1)) ∧ w'.cell? ⟨(ad69002.add ((x5_1).toNat * 9)).block, (ad69002.add ((x5_1).toNat * 9)).off + 2, none⟩ = some (.int .i64 ((rd_T55 l1 x5_1).f0.f2)) ∧ w'.cell? ⟨(ad69002.add ((x5_1).toNat * 9)).block, (ad69002.add ((x5_1).toNat * 9)).off + 3, none⟩ = some (.slice Az1 ((rd_T55 l1 x5_1).f0.f3).length cz1) ∧ w'.cell? ⟨(ad69002.add ((x5_1).toNat * 9)).block, (ad69002.add ((x5_1).toNat * 9)).off + 4, none⟩ = some (.int .i64 ((rd_T55 l1 x5_1).f1)) ∧ w'.cell? ⟨(ad69002.add ((x5_1).toNat * 9)).block, (ad69002.add ((x5_1).toNat * 9)).off + 5, none⟩ = some (.int .i64 ((rd_T55 l1 x5_1).f2)) ∧ w'.cell? ⟨(ad69002.add ((x5_1).toNat * 9)).block, (ad69002.add ((x5_1).toNat * 9)).off + 6, none⟩ = some (.int .i64 ((rd_T55 l1 x5_1).f3)) ∧ w'.cell? ⟨(ad69002.add ((x5_1).toNat * 9)).block, (ad69002.add ((x5_1).toNat * 9)).off + 7, none⟩ = some (.int .i64 ((rd_T55 l1 x5_1).f4)) ∧ w'.cell? ⟨(ad69002.add ((x5_1).toNat * 9)).block, (ad69002.add ((x5_1).toNat * 9)).off + 8, none⟩ = some (.bool ((rd_T55 l1 x5_1).f5))) (ds := []) #[false, false, false, false, false, false, false, false, false, false] (by kernel_rfl) rfl rfl ⟨bc HB.out hw69001_0, bc HB.out hw69001_1, bc HB.out hw69001_2, bc HB.out hw69001_3, bc HB.out hw69001_4, bc HB.out hw69001_5, bc HB.out hw69001_6, bc HB.out hw69001_7, bc HB.out hw69001_8, bc HB.out hw69002_0, bc HB.out hw69002_1, bc HB.out hw69002_2, bc HB.out hw69002_3, bc HB.out hw69002_4, bc HB.out hw69002_5, bc HB.out hw69002_6, bc HB.out hw69002_7, bc HB.out hw69002_8⟩ (fun hHeld => ?_); refine with_tabW laws_eqLayerS.tab6 laws_eqLayerS.bits6 (fun HT_ HW_ => ?_)
        generalize wr.drew = w9 at HB HR69001_3 HR69002_3 hx69001_0 hx69001_1 hx69001_2 hx69001_3 hx69001_4 hx69001_5 hx69001_6 hx69001_7 hx69001_8 hx69002_0 hx69002_1 hx69002_2 hx69002_3 hx69002_4 hx69002_5 hx69002_6 hx69002_7 hx69002_8 hHeld ⊢
        refine pure_ (i := 0) (N := some 17) (v := ?_) (a' := ?_) #[true, false, false, false, false, false, false, false, false, false] rfl rfl (any_of HT_.out (by kernel_rfl)) (fun _ _ _ h => h) (Or.inl ⟨by rfl, ?_⟩) ?_ ?_
        rotate_left
        ·intro w'
         go_simp
         with_reducible rfl
        rotate_left
        ·simp only [Act.put, List.setIfInBounds_toArray, List.set_cons_zero, List.set_cons_succ, i64_w, i32_w]
         rfl
        refine pure_ (i := 1) (N := some 18) (v := ?_) (a' := ?_) #[true, true, false, false, false, false, false, false, false, false] rfl rfl (any_of HT_.out (by kernel_rfl)) (fun _ _ _ h => h) (Or.inl ⟨by rfl, ?_⟩) ?_ ?_
        rotate_left
        ·intro w'
         go_simp
         with_reducible rfl
        rotate_left
        ·simp only [Act.put, List.setIfInBounds_toArray, List.set_cons_zero, List.set_cons_succ, i64_w, i32_w]
         rfl
        refine pure_ (i := 2) (N := some 19) (v := ?_) (a' := ?_) #[true, true, true, false, false, false, false, false, false, false] rfl rfl (any_of HT_.out (by kernel_rfl)) (fun _ _ _ h => h) (Or.inl ⟨by rfl, ?_⟩) ?_ ?_
        rotate_left
        ·intro w'
         go_simp
         with_reducible rfl
        rotate_left
        ·simp only [Act.put, List.setIfInBounds_toArray, List.set_cons_zero, List.set_cons_succ, i64_w, i32_w]
         rfl
        refine pure_ (i := 4) (N := some 21) (v := ?_) (a' := ?_) #[true, true, true, false, true, false, false, false, false, false] rfl rfl (any_of HT_.out (by kernel_rfl)) (fun _ _ _ h => h) (Or.inl ⟨by rfl, ?_⟩) ?_ ?_
        rotate_left
        ·intro w'
         go_simp
         with_reducible rfl
        rotate_left
        ·simp only [Act.put, List.setIfInBounds_toArray, List.set_cons_zero, List.set_cons_succ, i64_w, i32_w]
         rfl
        refine pure_ (i := 5) (N := some 22) (v := ?_) (a' := ?_) #[true, true, true, false, true, true, false, false, false, false] rfl rfl (any_of HT_.out (by kernel_rfl)) (fun _ _ _ h => h) (Or.inl ⟨by rfl, ?_⟩) ?_ ?_
        rotate_left
        ·intro w'
         go_simp
         with_reducible rfl
        rotate_left
        ·simp only [Act.put, List.setIfInBounds_toArray, List.set_cons_zero, List.set_cons_succ, i64_w, i32_w]
         rfl
        refine pure_ (i := 6) (N := some 23) (v := ?_) (a' := ?_) #[true, true, true, false, true, true, true, false, false, false] rfl rfl (any_of HT_.out (by kernel_rfl)) (fun _ _ _ h => h) (Or.inl ⟨by rfl, ?_⟩) ?_ ?_
        rotate_left
        ·intro w'
         go_simp
         with_reducible rfl
        rotate_left
        ·simp only [Act.put, List.setIfInBounds_toArray, List.set_cons_zero, List.set_cons_succ, i64_w, i32_w]
         rfl
        refine take_ (i := 3) (N := some 20) (v := ?_) (a' := ?_) #[true, true, true, true, true, true, true, false, false, false] rfl rfl (take_ofW HT_.out HW_.out (by kernel_rfl)) (fun _ _ _ h => h) (Or.inl ⟨by rfl, ?_⟩) hHeld ?_ ?_
        rotate_left
        ·rintro w' ⟨s0, s1, s2, s3, s4, s5, s6, s7, s8, s9, s10, s11, s12, s13, s14, s15, s16, s17⟩
         go_simp
         with_reducible rfl
        rotate_left
        ·simp only [Act.put, List.setIfInBounds_toArray, List.set_cons_zero, List.set_cons_succ, i64_w, i32_w]
         rfl
        refine take_ (i := 7) (N := some 24) (v := ?_) (a' := ?_) #[true, true, true, true, true, true, true, true, false, false] rfl rfl (take_ofW HT_.out HW_.out (by kernel_rfl)) (fun _ _ _ h => h) (Or.inl ⟨by rfl, ?_⟩) hHeld ?_ ?_
        rotate_left
        ·rintro w' ⟨s0, s1, s2, s3, s4, s5, s6, s7, s8, s9, s10, s11, s12, s13, s14, s15, s16, s17⟩
         go_simp
         with_reducible rfl
        rotate_left
        ·simp only [Act.put, List.setIfInBounds_toArray, List.set_cons_zero, List.set_cons_succ, i64_w, i32_w]
         rfl
        refine one_ (i := 8) (N := some 25) #[true, true, true, true, true, true, true, true, true, false] rfl rfl (one_of HT_.out (by kernel_rfl)) (by decide) (fun K hK => ?_)
        refine goes_ Try.func44 (by kernel_rfl) rfl #[.agg #[.int .i64 ((rd_T55 l0 x5_1).f0.f0), .int .i64 ((rd_T55 l0 x5_1).f0.f1), .int .i64 ((rd_T55 l0 x5_1).f0.f2), .slice Az0 ((rd_T55 l0 x5_1).f0.f3).length cz0, .int .i64 ((rd_T55 l0 x5_1).f1), .int .i64 ((rd_T55 l0 x5_1).f2), .int .i64 ((rd_T55 l0 x5_1).f3), .int .i64 ((rd_T55 l0 x5_1).f4), .bool ((rd_T55 l0 x5_1).f5)], .agg #[.int .i64 ((rd_T55 l1 x5_1).f0.f0), .int .i64 ((rd_T55 l1 x5_1).f0.f1), .int .i64 ((rd_T55 l1 x5_1).f0.f2), .slice Az1 ((rd_T55 l1 x5_1).f0.f3).length cz1, .int .i64 ((rd_T55 l1 x5_1).f1), .int .i64 ((rd_T55 l1 x5_1).f2), .int .i64 ((rd_T55 l1 x5_1).f3), .int .i64 ((rd_T55 l1 x5_1).f4), .bool ((rd_T55 l1 x5_1).f5)]] (by rfl) rfl rfl (by (try simp only [List.map_toArray, List.map_cons, List.map_nil]); rfl) ?_
        with_reducible refine (laws_eqLayer.calls k1 ((rd_T55 l0 x5_1).f0.f0) ((rd_T55 l0 x5_1).f0.f1) ((rd_T55 l0 x5_1).f0.f2) _ _ ((rd_T55 l0 x5_1).f0.f3) ((rd_T55 l0 x5_1).f1) ((rd_T55 l0 x5_1).f2) ((rd_T55 l0 x5_1).f3) ((rd_T55 l0 x5_1).f4) ((rd_T55 l0 x5_1).f5) ((rd_T55 l1 x5_1).f0.f0) ((rd_T55 l1 x5_1).f0.f1) ((rd_T55 l1 x5_1).f0.f2) _ _ ((rd_T55 l1 x5_1).f0.f3) ((rd_T55 l1 x5_1).f1) ((rd_T55 l1 x5_1).f2) ((rd_T55 l1 x5_1).f3) ((rd_T55 l1 x5_1).f4) ((rd_T55 l1 x5_1).f5) true _ ?side1 ?side2 ?side3 ?side4 A7.out rfl).mono ?_
        (case side1 => repeat (exact (Kd.C_below HR69001_3.out HB.out)))
        (case side2 => exact HC69001_3.out)
        (case side3 => repeat (exact (Kd.C_below HR69002_3.out HB.out)))
        (case side4 => exact HC69002_3.out)
        rintro e w10 ⟨rfl, hb⟩
        refine ⟨_, rfl, ?_⟩
        replace HB := mk (below_step HB.out hb)
        (try clear hb)
        refine hK.out _ _ ⟨bc HB.out hw69001_0, bc HB.out hw69001_1, bc HB.out hw69001_2, bc HB.out hw69001_3, bc HB.out hw69001_4, bc HB.out hw69001_5, bc HB.out hw69001_6, bc HB.out hw69001_7, bc HB.out hw69001_8, bc HB.out hw69002_0, bc HB.out hw69002_1, bc HB.out hw69002_2, bc HB.out hw69002_3, bc HB.out hw69002_4, bc HB.out hw69002_5, bc HB.out hw69002_6, bc HB.out hw69002_7, bc HB.out hw69002_8⟩ (fun hHeld => ?_)
        clear hK K
        refine norm_ (a' := ?_) ?_ ?_
        rotate_left
        ·show Act.put _ (some 25) _ = _
         simp only [Act.put, List.setIfInBounds_toArray, List.set_cons_zero, List.set_cons_succ, i64_w, i32_w]
         rfl
        refine pure_ (i := 9) (N := some 26) (v := ?_) (a' := ?_) #[true, true, true, true, true, true, true, true, true, true] rfl rfl (any_of HT_.out (by kernel_rfl)) (fun _ _ _ h => h) (Or.inl ⟨by rfl, ?_⟩) ?_ ?_
        rotate_left
        ·intro w'
         go_simp
         with_reducible rfl
        rotate_left
        ·simp only [Act.put, List.setIfInBounds_toArray, List.set_cons_zero, List.set_cons_succ, i64_w, i32_w]
         rfl
        refine done_ (done_of HT_.out (by kernel_rfl)) ?_
        try go_wp2
        go_roundg k1
        case measure => have := HK1.out; omega
        case rel => exact ⟨(wrap64 (x5_1 + 1)), (by rfl), H', ⟨by have := HK1.out; omega⟩, HB⟩
       replace c8 := Bool.eq_false_iff.mpr c8
       subst c8
       have H1 : (some false) = some r := by rw [if_neg (show ¬ (false = true) by decide)] at H; exact H
       clear H
       have H := H1
       clear H1
       exact absurd ((Option.some.inj H).trans HRT.out) (by decide)
      rw [if_neg c6] at H
      exact absurd H (by simp)
     rw [if_neg c5] at H
     exact absurd H (by simp)
    rw [if_neg c4] at H
    have c4b0 : decide (x5_1 < (l0.length : Int)) = false := decide_eq_false c4
    clear c4
    obtain rfl := Option.some.inj H
    go_wp2
    go_ret
    exact ⟨by rfl, by exact HB.out⟩
 rw [if_neg c3] at H
 have c3b0 : ((l0.length : Int) == (l1.length : Int)) = false := beq_eq_false_iff_ne.mpr c3
 have c3b1 : ((l0.length : Int) != (l1.length : Int)) = true := bne_iff_ne.mpr c3
 have c3b2 : (l0.length == l1.length) = false := by (simp at c3 ⊢; omega)
 exact absurd ((Option.some.inj H).trans HRT.out) (by decide)


/- Numbers written into every place of a row whose elements lead to rows (LayerS). -/

def laws_markLayerS.l0 : Nat → List S55 → Int → Int → Option (Int × List S55)
 | 0, _, _, _ => none
 | k + 1, x0, x1, x5 => if x5 < (x0.length : Int) then (if 0 ≤ x5 then ((laws_markIntS.f k (rd_T55 x0 x5).f0.f3 (wrap64 ((wrap64 ((wrap64 (x1 + 1)) + 1)) + 1))).bind fun bt => laws_markLayerS.l0 k (x0.set (x5 : Int).toNat (⟨⟨x1, (wrap64 (x1 + 1)), (wrap64 ((wrap64 (x1 + 1)) + 1)), bt.2⟩, bt.1, (wrap64 (bt.1 + 1)), (wrap64 ((wrap64 (bt.1 + 1)) + 1)), (wrap64 ((wrap64 ((wrap64 (bt.1 + 1)) + 1)) + 1)), (Int.tmod (wrap64 ((wrap64 ((wrap64 ((wrap64 (bt.1 + 1)) + 1)) + 1)) + 1)) 3 == 0)⟩ : S55)) (wrap64 ((wrap64 ((wrap64 ((wrap64 ((wrap64 (bt.1 + 1)) + 1)) + 1)) + 1)) + 1)) (wrap64 (x5 + 1))) else none) else some (x1, x0)
def laws_markLayerS.f (k : Nat) (l0 : List S55) (a1 : Int) : Option (Int × List S55) := laws_markLayerS.l0 k l0 a1 0
set_option maxHeartbeats 8000000 in
set_option maxRecDepth 100000 in
theorem laws_markLayerS.calls (k : Nat) (P0_ : Nat → Prop) (u9000_ : Value) (l0 : List S55) (a1 : Int) (r1 : Int) (r2 : List S55) (w0 w : World) (hB : Below w0.heap.size w0 w) (ho0 : Kd.S k55 55 w w0.heap.size (fun k_ => P0_ k_) u9000_ l0) (h : laws_markLayerS.f k l0 a1 = some (r1, r2)) :
  Calls Try.prog 69 #[u9000_, .int .i64 a1] w fun e w' => e = .returned (.int .i64 r1) ∧ Kd.S k55 55 w' w0.heap.size (fun k_ => (P0_ k_ ∨ w.heap.size ≤ k_)) u9000_ r2 ∧ Below w0.heap.size w0 w' ∧ Kept w w' (fun k_ => P0_ k_) := by
 have HO := mk ho0
 have HK := mk (Kept.refl w (fun k_ => P0_ k_))
 have HB := mk hB
 have H' := mk (show laws_markLayerS.l0 k l0 a1 0 = some (r1, r2) from h)
 clear h ho0 hB
 go_enter Try.func69, Try.ntmps69
 go_wp2
 go_loopg [1, 5] k (fun kq v1 v5 w' => ∃ (x0_1 : List S55) (x1_1 : Int) (x5_1 : Int), v1 = .int .i64 x1_1 ∧ v5 = .int .i64 x5_1 ∧ Aside0 (laws_markLayerS.l0 kq x0_1 x1_1 x5_1 = some (r1, r2)) ∧ Aside0 (kq ≤ k) ∧ Aside0 (Kd.S k55 55 w' w0.heap.size (fun k_ => P0_ k_) u9000_ x0_1) ∧ Aside0 (Kept w w' (fun k_ => P0_ k_)) ∧ Aside0 (Below w0.heap.size w0 w'))
 case atStart => exact ⟨(l0), (a1), (0), (by rfl), (by rfl), H', ⟨Nat.le_refl _⟩, HO, HK, HB⟩
 case round =>
  clear H' HO HK HB
  obtain ⟨x0_1, x1_1, x5_1, rfl, rfl, HA, HK1, HO, HK, HB⟩ := hrel
  cases gk with
  | zero => exact absurd HA.out (by simp [laws_markLayerS.l0])
  | succ k1 =>
   have H := HA.out
   clear HA
   simp only [laws_markLayerS.l0] at H
   obtain ⟨Ao8, co8, eo8⟩ := Kd.S_slice HO.out
   subst eo8
   by_cases c3 : x5_1 < (x0_1.length : Int)
   ·rw [if_pos c3] at H
    have c3b0 : decide (x5_1 < (x0_1.length : Int)) = true := decide_eq_true c3
    by_cases c4 : 0 ≤ x5_1
    ·rw [if_pos c4] at H
     have c4b0 : decide (0 ≤ x5_1) = true := decide_eq_true c4
     replace H := Option.bind_eq_some_iff.mp H
     obtain ⟨⟨t1, t2⟩, hm_, H⟩ := H
     have HM := mk hm_
     have H' := mk H
     have P5 := mk c4
     have Q5 := mk (show x5_1 < ((x0_1.length : Int) : Int) from c3)
     clear H hm_
     obtain ⟨go5, co5, eo5, gb5, gl5, cl5, HG5⟩ := Kd.S_form HO.out (by omega)
     (cases eo5)
     have GB := mk gb5
     have HP0 := mk ((Kd.S_R HO.out).1 go5 rfl)
     obtain ⟨oki_, ce_, hcl_, hM_, _, _, hok_, hH_⟩ := Kd.S_elem HO.out z55 (x5_1 : Int) P5.out Q5.out
     have hO_ := k55_openM hM_
     obtain ⟨ve_, rfl, hR_⟩ := hO_
     obtain ⟨Av_, cv_, ev_⟩ := Kd.R_slice hR_
     subst ev_
     have HR := mk (show Kd.R (Kd.int .i64) 3 wr w0.heap.size oki_ (.slice Av_ (rd_T55 x0_1 x5_1).f0.f3.length cv_) (rd_T55 x0_1 x5_1).f0.f3 from hR_)
     have HOK := mk hok_
     have HH := mk (show Kd.H k55 55 wr w0.heap.size (fun k_ => P0_ k_) (.slice (some ⟨go5, 0, none⟩) x0_1.length co8) x0_1 (x5_1 : Int) oki_ [.int .i64 (rd_T55 x0_1 x5_1).f0.f0, .int .i64 (rd_T55 x0_1 x5_1).f0.f1, .int .i64 (rd_T55 x0_1 x5_1).f0.f2, (.slice Av_ (rd_T55 x0_1 x5_1).f0.f3.length cv_), .int .i64 (rd_T55 x0_1 x5_1).f1, .int .i64 (rd_T55 x0_1 x5_1).f2, .int .i64 (rd_T55 x0_1 x5_1).f3, .int .i64 (rd_T55 x0_1 x5_1).f4, .bool (rd_T55 x0_1 x5_1).f5] from hH_)
     have p5_ := eq_true c4
     have q5_ := eq_true c3
     clear gb5 gl5 HG5 hcl_ hok_ hH_ hR_ c3 c4 HO; try clear hM_
     have hx_ : wr.cell? ⟨go5, (x5_1 : Int).toNat * 9, none⟩ = some (.int .i64 (rd_T55 x0_1 x5_1).f0.f0) := (Kd.H_at HH.out P5.out Q5.out).1 0 _ rfl; have hf_ : wr.frozen? ⟨go5, (x5_1 : Int).toNat * 9, none⟩ = false := (Kd.H_at HH.out P5.out Q5.out).2 0
     go_wp2_with (first | ((with_reducible refine gate_store (t := 3) (p := 17) rfl ?_); refine store_event (t := 3) (p := 17) (v := ?vo_w1) (w1 := (wr.setCell ⟨go5, (x5_1 : Int).toNat * 9, none⟩ (.int .i64 x1_1))) ?hg ?ho ?hn ?hr ?_; (case ho => rfl); (case hg => rfl); (case hn => rfl); (case hr => (go_simp; done)); intro w1 hw; obtain ⟨hh, hg⟩ := Kd.H_seg HH.out P5.out Q5.out (seg := [.int .i64 x1_1]) (j := 0) (show 1 ≤ 9 from by decide) (by simp [Value.oneCell']); replace hg : wr.grownBy w1 (some go5) := (by rw [hw]; exact hg); replace HH := mk (show Kd.H k55 55 w1 w0.heap.size (fun k_ => P0_ k_) (.slice (some ⟨go5, 0, none⟩) x0_1.length co8) x0_1 (x5_1 : Int) oki_ [.int .i64 x1_1, .int .i64 (rd_T55 x0_1 x5_1).f0.f1, .int .i64 (rd_T55 x0_1 x5_1).f0.f2, (.slice Av_ (rd_T55 x0_1 x5_1).f0.f3.length cv_), .int .i64 (rd_T55 x0_1 x5_1).f1, .int .i64 (rd_T55 x0_1 x5_1).f2, .int .i64 (rd_T55 x0_1 x5_1).f3, .int .i64 (rd_T55 x0_1 x5_1).f4, .bool (rd_T55 x0_1 x5_1).f5] from (by rw [hw]; exact hh)); replace HR := mk (Kd.R_grown HR.out hg (fun k_ hk_ e_ => (HOK.out k_ hk_).2 (by injection e_))); replace HB := mk (show Below w0.heap.size w0 w1 from (by rw [hw]; exact below_set HB.out GB.out)); replace HK := mk (Kept.of_grown (S := fun k_ => P0_ k_) hg HK.out (fun k_ e_ => .inl (by injection e_ with e_; rw [← e_]; exact HP0.out))); clear hh hg hw hx_ hf_; have hx_ : w1.cell? ⟨go5, (x5_1 : Int).toNat * 9 + 1, none⟩ = some (.int .i64 (rd_T55 x0_1 x5_1).f0.f1) := (Kd.H_at HH.out P5.out Q5.out).1 1 _ rfl; have hf_ : w1.frozen? ⟨go5, (x5_1 : Int).toNat * 9 + 1, none⟩ = false := (Kd.H_at HH.out P5.out Q5.out).2 1) | ((with_reducible refine gate_store (t := 3) (p := 25) rfl ?_); refine store_event (t := 3) (p := 25) (v := ?vo_w2) (w1 := (w1.setCell ⟨go5, (x5_1 : Int).toNat * 9 + 1, none⟩ (.int .i64 (wrap64 (x1_1 + 1))))) ?hg ?ho ?hn ?hr ?_; (case ho => rfl); (case hg => rfl); (case hn => rfl); (case hr => (go_simp; done)); intro w2 hw; obtain ⟨hh, hg⟩ := Kd.H_seg HH.out P5.out Q5.out (seg := [.int .i64 (wrap64 (x1_1 + 1))]) (j := 1) (show 2 ≤ 9 from by decide) (by simp [Value.oneCell']); replace hg : w1.grownBy w2 (some go5) := (by rw [hw]; exact hg); replace HH := mk (show Kd.H k55 55 w2 w0.heap.size (fun k_ => P0_ k_) (.slice (some ⟨go5, 0, none⟩) x0_1.length co8) x0_1 (x5_1 : Int) oki_ [.int .i64 x1_1, .int .i64 (wrap64 (x1_1 + 1)), .int .i64 (rd_T55 x0_1 x5_1).f0.f2, (.slice Av_ (rd_T55 x0_1 x5_1).f0.f3.length cv_), .int .i64 (rd_T55 x0_1 x5_1).f1, .int .i64 (rd_T55 x0_1 x5_1).f2, .int .i64 (rd_T55 x0_1 x5_1).f3, .int .i64 (rd_T55 x0_1 x5_1).f4, .bool (rd_T55 x0_1 x5_1).f5] from (by rw [hw]; exact hh)); replace HR := mk (Kd.R_grown HR.out hg (fun k_ hk_ e_ => (HOK.out k_ hk_).2 (by injection e_))); replace HB := mk (show Below w0.heap.size w0 w2 from (by rw [hw]; exact below_set HB.out GB.out)); replace HK := mk (Kept.of_grown (S := fun k_ => P0_ k_) hg HK.out (fun k_ e_ => .inl (by injection e_ with e_; rw [← e_]; exact HP0.out))); clear hh hg hw hx_ hf_; have hx_ : w2.cell? ⟨go5, (x5_1 : Int).toNat * 9 + 2, none⟩ = some (.int .i64 (rd_T55 x0_1 x5_1).f0.f2) := (Kd.H_at HH.out P5.out Q5.out).1 2 _ rfl; have hf_ : w2.frozen? ⟨go5, (x5_1 : Int).toNat * 9 + 2, none⟩ = false := (Kd.H_at HH.out P5.out Q5.out).2 2) | ((with_reducible refine gate_store (t := 3) (p := 33) rfl ?_); refine store_event (t := 3) (p := 33) (v := ?vo_w3) (w1 := (w2.setCell ⟨go5, (x5_1 : Int).toNat * 9 + 2, none⟩ (.int .i64 (wrap64 ((wrap64 (x1_1 + 1)) + 1))))) ?hg ?ho ?hn ?hr ?_; (case ho => rfl); (case hg => rfl); (case hn => rfl); (case hr => (go_simp; done)); intro w3 hw; obtain ⟨hh, hg⟩ := Kd.H_seg HH.out P5.out Q5.out (seg := [.int .i64 (wrap64 ((wrap64 (x1_1 + 1)) + 1))]) (j := 2) (show 3 ≤ 9 from by decide) (by simp [Value.oneCell']); replace hg : w2.grownBy w3 (some go5) := (by rw [hw]; exact hg); replace HH := mk (show Kd.H k55 55 w3 w0.heap.size (fun k_ => P0_ k_) (.slice (some ⟨go5, 0, none⟩) x0_1.length co8) x0_1 (x5_1 : Int) oki_ [.int .i64 x1_1, .int .i64 (wrap64 (x1_1 + 1)), .int .i64 (wrap64 ((wrap64 (x1_1 + 1)) + 1)), (.slice Av_ (rd_T55 x0_1 x5_1).f0.f3.length cv_), .int .i64 (rd_T55 x0_1 x5_1).f1, .int .i64 (rd_T55 x0_1 x5_1).f2, .int .i64 (rd_T55 x0_1 x5_1).f3, .int .i64 (rd_T55 x0_1 x5_1).f4, .bool (rd_T55 x0_1 x5_1).f5] from (by rw [hw]; exact hh)); replace HR := mk (Kd.R_grown HR.out hg (fun k_ hk_ e_ => (HOK.out k_ hk_).2 (by injection e_))); replace HB := mk (show Below w0.heap.size w0 w3 from (by rw [hw]; exact below_set HB.out GB.out)); replace HK := mk (Kept.of_grown (S := fun k_ => P0_ k_) hg HK.out (fun k_ e_ => .inl (by injection e_ with e_; rw [← e_]; exact HP0.out))); clear hh hg hw hx_ hf_; have hx_ : w3.cell? ⟨go5, (x5_1 : Int).toNat * 9 + 3, none⟩ = some ((.slice Av_ (rd_T55 x0_1 x5_1).f0.f3.length cv_)) := (Kd.H_at HH.out P5.out Q5.out).1 3 _ rfl; have hf_ : w3.frozen? ⟨go5, (x5_1 : Int).toNat * 9 + 3, none⟩ = false := (Kd.H_at HH.out P5.out Q5.out).2 3) | (go_at_call 46; (with_reducible refine (laws_markIntS.calls k1 oki_ (.slice Av_ (rd_T55 x0_1 x5_1).f0.f3.length cv_) (rd_T55 x0_1 x5_1).f0.f3 (wrap64 ((wrap64 ((wrap64 (x1_1 + 1)) + 1)) + 1)) t1 t2 w0 w3 HB.out HR.out HM.out).mono ?_); rintro e w4 ⟨rfl, hr, hb, hk⟩; replace HB := mk hb; replace HR := mk (Kd.R_reok rfl hr (fun k_ e_ => HR.out.1 k_ e_)); replace HH := mk (Kd.H_step HH.out (fun k_ _ hn_ hlt_ => hk.2 k_ hlt_ hn_)); replace HK := mk (Kept.then_ (S := fun k_ => P0_ k_) HK.out hk (fun k_ hs_ => .inl (HOK.out k_ hs_).1)); clear hr hb hk hx_ hf_; have hx_ : w4.cell? ⟨go5, (x5_1 : Int).toNat * 9 + 4, none⟩ = some (.int .i64 (rd_T55 x0_1 x5_1).f1) := (Kd.H_at HH.out P5.out Q5.out).1 4 _ rfl; have hf_ : w4.frozen? ⟨go5, (x5_1 : Int).toNat * 9 + 4, none⟩ = false := (Kd.H_at HH.out P5.out Q5.out).2 4) | ((with_reducible refine gate_store (t := 3) (p := 48) rfl ?_); refine store_event (t := 3) (p := 48) (v := ?vo_w5) (w1 := (w4.setCell ⟨go5, (x5_1 : Int).toNat * 9 + 4, none⟩ (.int .i64 t1))) ?hg ?ho ?hn ?hr ?_; (case ho => rfl); (case hg => rfl); (case hn => rfl); (case hr => (go_simp; done)); intro w5 hw; obtain ⟨hh, hg⟩ := Kd.H_seg HH.out P5.out Q5.out (seg := [.int .i64 t1]) (j := 4) (show 5 ≤ 9 from by decide) (by simp [Value.oneCell']); replace hg : w4.grownBy w5 (some go5) := (by rw [hw]; exact hg); replace HH := mk (show Kd.H k55 55 w5 w0.heap.size (fun k_ => P0_ k_) (.slice (some ⟨go5, 0, none⟩) x0_1.length co8) x0_1 (x5_1 : Int) oki_ [.int .i64 x1_1, .int .i64 (wrap64 (x1_1 + 1)), .int .i64 (wrap64 ((wrap64 (x1_1 + 1)) + 1)), (.slice Av_ (rd_T55 x0_1 x5_1).f0.f3.length cv_), .int .i64 t1, .int .i64 (rd_T55 x0_1 x5_1).f2, .int .i64 (rd_T55 x0_1 x5_1).f3, .int .i64 (rd_T55 x0_1 x5_1).f4, .bool (rd_T55 x0_1 x5_1).f5] from (by rw [hw]; exact hh)); replace HR := mk (Kd.R_grown HR.out hg (fun k_ hk_ e_ => (HOK.out k_ hk_).2 (by injection e_))); replace HB := mk (show Below w0.heap.size w0 w5 from (by rw [hw]; exact below_set HB.out GB.out)); replace HK := mk (Kept.of_grown (S := fun k_ => P0_ k_) hg HK.out (fun k_ e_ => .inl (by injection e_ with e_; rw [← e_]; exact HP0.out))); clear hh hg hw hx_ hf_; have hx_ : w5.cell? ⟨go5, (x5_1 : Int).toNat * 9 + 5, none⟩ = some (.int .i64 (rd_T55 x0_1 x5_1).f2) := (Kd.H_at HH.out P5.out Q5.out).1 5 _ rfl; have hf_ : w5.frozen? ⟨go5, (x5_1 : Int).toNat * 9 + 5, none⟩ = false := (Kd.H_at HH.out P5.out Q5.out).2 5) | ((with_reducible refine gate_store (t := 3) (p := 55) rfl ?_); refine store_event (t := 3) (p := 55) (v := ?vo_w6) (w1 := (w5.setCell ⟨go5, (x5_1 : Int).toNat * 9 + 5, none⟩ (.int .i64 (wrap64 (t1 + 1))))) ?hg ?ho ?hn ?hr ?_; (case ho => rfl); (case hg => rfl); (case hn => rfl); (case hr => (go_simp; done)); intro w6 hw; obtain ⟨hh, hg⟩ := Kd.H_seg HH.out P5.out Q5.out (seg := [.int .i64 (wrap64 (t1 + 1))]) (j := 5) (show 6 ≤ 9 from by decide) (by simp [Value.oneCell']); replace hg : w5.grownBy w6 (some go5) := (by rw [hw]; exact hg); replace HH := mk (show Kd.H k55 55 w6 w0.heap.size (fun k_ => P0_ k_) (.slice (some ⟨go5, 0, none⟩) x0_1.length co8) x0_1 (x5_1 : Int) oki_ [.int .i64 x1_1, .int .i64 (wrap64 (x1_1 + 1)), .int .i64 (wrap64 ((wrap64 (x1_1 + 1)) + 1)), (.slice Av_ (rd_T55 x0_1 x5_1).f0.f3.length cv_), .int .i64 t1, .int .i64 (wrap64 (t1 + 1)), .int .i64 (rd_T55 x0_1 x5_1).f3, .int .i64 (rd_T55 x0_1 x5_1).f4, .bool (rd_T55 x0_1 x5_1).f5] from (by rw [hw]; exact hh)); replace HR := mk (Kd.R_grown HR.out hg (fun k_ hk_ e_ => (HOK.out k_ hk_).2 (by injection e_))); replace HB := mk (show Below w0.heap.size w0 w6 from (by rw [hw]; exact below_set HB.out GB.out)); replace HK := mk (Kept.of_grown (S := fun k_ => P0_ k_) hg HK.out (fun k_ e_ => .inl (by injection e_ with e_; rw [← e_]; exact HP0.out))); clear hh hg hw hx_ hf_; have hx_ : w6.cell? ⟨go5, (x5_1 : Int).toNat * 9 + 6, none⟩ = some (.int .i64 (rd_T55 x0_1 x5_1).f3) := (Kd.H_at HH.out P5.out Q5.out).1 6 _ rfl; have hf_ : w6.frozen? ⟨go5, (x5_1 : Int).toNat * 9 + 6, none⟩ = false := (Kd.H_at HH.out P5.out Q5.out).2 6) | ((with_reducible refine gate_store (t := 3) (p := 62) rfl ?_); refine store_event (t := 3) (p := 62) (v := ?vo_w7) (w1 := (w6.setCell ⟨go5, (x5_1 : Int).toNat * 9 + 6, none⟩ (.int .i64 (wrap64 ((wrap64 (t1 + 1)) + 1))))) ?hg ?ho ?hn ?hr ?_; (case ho => rfl); (case hg => rfl); (case hn => rfl); (case hr => (go_simp; done)); intro w7 hw; obtain ⟨hh, hg⟩ := Kd.H_seg HH.out P5.out Q5.out (seg := [.int .i64 (wrap64 ((wrap64 (t1 + 1)) + 1))]) (j := 6) (show 7 ≤ 9 from by decide) (by simp [Value.oneCell']); replace hg : w6.grownBy w7 (some go5) := (by rw [hw]; exact hg); replace HH := mk (show Kd.H k55 55 w7 w0.heap.size (fun k_ => P0_ k_) (.slice (some ⟨go5, 0, none⟩) x0_1.length co8) x0_1 (x5_1 : Int) oki_ [.int .i64 x1_1, .int .i64 (wrap64 (x1_1 + 1)), .int .i64 (wrap64 ((wrap64 (x1_1 + 1)) + 1)), (.slice Av_ (rd_T55 x0_1 x5_1).f0.f3.length cv_), .int .i64 t1, .int .i64 (wrap64 (t1 + 1)), .int .i64 (wrap64 ((wrap64 (t1 + 1)) + 1)), .int .i64 (rd_T55 x0_1 x5_1).f4, .bool (rd_T55 x0_1 x5_1).f5] from (by rw [hw]; exact hh)); replace HR := mk (Kd.R_grown HR.out hg (fun k_ hk_ e_ => (HOK.out k_ hk_).2 (by injection e_))); replace HB := mk (show Below w0.heap.size w0 w7 from (by rw [hw]; exact below_set HB.out GB.out)); replace HK := mk (Kept.of_grown (S := fun k_ => P0_ k_) hg HK.out (fun k_ e_ => .inl (by injection e_ with e_; rw [← e_]; exact HP0.out))); clear hh hg hw hx_ hf_; have hx_ : w7.cell? ⟨go5, (x5_1 : Int).toNat * 9 + 7, none⟩ = some (.int .i64 (rd_T55 x0_1 x5_1).f4) := (Kd.H_at HH.out P5.out Q5.out).1 7 _ rfl; have hf_ : w7.frozen? ⟨go5, (x5_1 : Int).toNat * 9 + 7, none⟩ = false := (Kd.H_at HH.out P5.out Q5.out).2 7) | ((with_reducible refine gate_store (t := 3) (p := 69) rfl ?_); refine store_event (t := 3) (p := 69) (v := ?vo_w8) (w1 := (w7.setCell ⟨go5, (x5_1 : Int).toNat * 9 + 7, none⟩ (.int .i64 (wrap64 ((wrap64 ((wrap64 (t1 + 1)) + 1)) + 1))))) ?hg ?ho ?hn ?hr ?_; (case ho => rfl); (case hg => rfl); (case hn => rfl); (case hr => (go_simp; done)); intro w8 hw; obtain ⟨hh, hg⟩ := Kd.H_seg HH.out P5.out Q5.out (seg := [.int .i64 (wrap64 ((wrap64 ((wrap64 (t1 + 1)) + 1)) + 1))]) (j := 7) (show 8 ≤ 9 from by decide) (by simp [Value.oneCell']); replace hg : w7.grownBy w8 (some go5) := (by rw [hw]; exact hg); replace HH := mk (show Kd.H k55 55 w8 w0.heap.size (fun k_ => P0_ k_) (.slice (some ⟨go5, 0, none⟩) x0_1.length co8) x0_1 (x5_1 : Int) oki_ [.int .i64 x1_1, .int .i64 (wrap64 (x1_1 + 1)), .int .i64 (wrap64 ((wrap64 (x1_1 + 1)) + 1)), (.slice Av_ (rd_T55 x0_1 x5_1).f0.f3.length cv_), .int .i64 t1, .int .i64 (wrap64 (t1 + 1)), .int .i64 (wrap64 ((wrap64 (t1 + 1)) + 1)), .int .i64 (wrap64 ((wrap64 ((wrap64 (t1 + 1)) + 1)) + 1)), .bool (rd_T55 x0_1 x5_1).f5] from (by rw [hw]; exact hh)); replace HR := mk (Kd.R_grown HR.out hg (fun k_ hk_ e_ => (HOK.out k_ hk_).2 (by injection e_))); replace HB := mk (show Below w0.heap.size w0 w8 from (by rw [hw]; exact below_set HB.out GB.out)); replace HK := mk (Kept.of_grown (S := fun k_ => P0_ k_) hg HK.out (fun k_ e_ => .inl (by injection e_ with e_; rw [← e_]; exact HP0.out))); clear hh hg hw hx_ hf_; have hx_ : w8.cell? ⟨go5, (x5_1 : Int).toNat * 9 + 8, none⟩ = some (.bool (rd_T55 x0_1 x5_1).f5) := (Kd.H_at HH.out P5.out Q5.out).1 8 _ rfl; have hf_ : w8.frozen? ⟨go5, (x5_1 : Int).toNat * 9 + 8, none⟩ = false := (Kd.H_at HH.out P5.out Q5.out).2 8) | ((with_reducible refine gate_store (t := 4) (p := 78) rfl ?_); refine store_event (t := 4) (p := 78) (v := ?vo_w9) (w1 := (w8.setCell ⟨go5, (x5_1 : Int).toNat * 9 + 8, none⟩ (.bool (Int.tmod (wrap64 ((wrap64 ((wrap64 ((wrap64 (t1 + 1)) + 1)) + 1)) + 1)) 3 == 0)))) ?hg ?ho ?hn ?hr ?_; (case ho => rfl); (case hg => rfl); (case hn => rfl); (case hr => (go_simp; done)); intro w9 hw; obtain ⟨hh, hg⟩ := Kd.H_seg HH.out P5.out Q5.out (seg := [.bool (Int.tmod (wrap64 ((wrap64 ((wrap64 ((wrap64 (t1 + 1)) + 1)) + 1)) + 1)) 3 == 0)]) (j := 8) (show 9 ≤ 9 from by decide) (by simp [Value.oneCell']); replace hg : w8.grownBy w9 (some go5) := (by rw [hw]; exact hg); replace HH := mk (show Kd.H k55 55 w9 w0.heap.size (fun k_ => P0_ k_) (.slice (some ⟨go5, 0, none⟩) x0_1.length co8) x0_1 (x5_1 : Int) oki_ [.int .i64 x1_1, .int .i64 (wrap64 (x1_1 + 1)), .int .i64 (wrap64 ((wrap64 (x1_1 + 1)) + 1)), (.slice Av_ (rd_T55 x0_1 x5_1).f0.f3.length cv_), .int .i64 t1, .int .i64 (wrap64 (t1 + 1)), .int .i64 (wrap64 ((wrap64 (t1 + 1)) + 1)), .int .i64 (wrap64 ((wrap64 ((wrap64 (t1 + 1)) + 1)) + 1)), .bool (Int.tmod (wrap64 ((wrap64 ((wrap64 ((wrap64 (t1 + 1)) + 1)) + 1)) + 1)) 3 == 0)] from (by rw [hw]; exact hh)); replace HR := mk (Kd.R_grown HR.out hg (fun k_ hk_ e_ => (HOK.out k_ hk_).2 (by injection e_))); replace HB := mk (show Below w0.heap.size w0 w9 from (by rw [hw]; exact below_set HB.out GB.out)); replace HK := mk (Kept.of_grown (S := fun k_ => P0_ k_) hg HK.out (fun k_ e_ => .inl (by injection e_ with e_; rw [← e_]; exact HP0.out))); clear hh hg hw hx_ hf_))
     go_roundg k1
     case measure => have := HK1.out; omega
     case rel => exact ⟨x0_1.set (x5_1 : Int).toNat (⟨⟨x1_1, (wrap64 (x1_1 + 1)), (wrap64 ((wrap64 (x1_1 + 1)) + 1)), t2⟩, t1, (wrap64 (t1 + 1)), (wrap64 ((wrap64 (t1 + 1)) + 1)), (wrap64 ((wrap64 ((wrap64 (t1 + 1)) + 1)) + 1)), (Int.tmod (wrap64 ((wrap64 ((wrap64 ((wrap64 (t1 + 1)) + 1)) + 1)) + 1)) 3 == 0)⟩ : S55), (wrap64 ((wrap64 ((wrap64 ((wrap64 ((wrap64 (t1 + 1)) + 1)) + 1)) + 1)) + 1)), wrap64 (x5_1 + 1), (by rfl), (by rfl), H', ⟨by have := HK1.out; omega⟩, ⟨Kd.H_back HH.out (k55_mkM _ _ _ (⟨⟨x1_1, (wrap64 (x1_1 + 1)), (wrap64 ((wrap64 (x1_1 + 1)) + 1)), t2⟩, t1, (wrap64 (t1 + 1)), (wrap64 ((wrap64 (t1 + 1)) + 1)), (wrap64 ((wrap64 ((wrap64 (t1 + 1)) + 1)) + 1)), (Int.tmod (wrap64 ((wrap64 ((wrap64 ((wrap64 (t1 + 1)) + 1)) + 1)) + 1)) 3 == 0)⟩ : S55) HR.out) (fun _ h_ => h_)⟩, HK, HB⟩
    rw [if_neg c4] at H
    cases H
   rw [if_neg c3] at H
   have c3b0 : decide (x5_1 < (x0_1.length : Int)) = false := decide_eq_false c3
   clear c3
   simp only [Option.some.injEq, Prod.mk.injEq] at H
   obtain ⟨rfl, rfl⟩ := H
   go_wp2
   go_ret
   exact ⟨by rfl, Kd.S_mono HO.out (fun _ h_ => .inl h_), HB.out, HK.out⟩
end Go.Proofs.Ytnofkbbcbpjhfaa.Q

namespace Go.Proofs.Ytnofkbbcbpjhfaa.Q
open Go.RowKit Go.Proofs.YtnofkbbcbpjhfaaW.PrintWords Go.Proofs.YtnofkbbcbpjhfaaW.PrintLast Go.Proofs.YtnofkbbcbpjhfaaW.PrintMore
attribute [local go_sem] max2_int min2_int max_two min_two max_three min_three max_four min_four
set_option linter.unusedVariables false
set_option linter.unusedSimpArgs false
def laws_heldIntS.l0 : Nat → List Int → Int → Int → Option (Int)
 | 0, _, _, _ => none
 | k + 1, x0, x1, x5 => if x5 < (x0.length : Int) then (if 0 ≤ x5 then (if (rd x0 x5) = x1 then (laws_heldIntS.l0 k x0 (wrap64 (x1 + 1)) (wrap64 (x5 + 1))) else (some (-1))) else (none)) else (some x1)
def laws_heldIntS.f (k : Nat) (l0 : List Int) (a1 : Int) : Option (Int) := laws_heldIntS.l0 k l0 a1 0
theorem laws_heldIntS.mono_l : ∀ k, (∀ y0 y1 y2, LeO (laws_heldIntS.l0 k y0 y1 y2) (laws_heldIntS.l0 (k + 1) y0 y1 y2))
 | 0 => fun _ _ _ r h => by simp [laws_heldIntS.l0] at h
 | k + 1 => by
  have ih0 := laws_heldIntS.mono_l k
  ·intro y0 y1 y2
   unfold laws_heldIntS.l0
   repeat' first
   | (with_reducible exact ih0 _ _ _)
   | (with_reducible exact LeO.refl _)
   | (with_reducible exact LeO.none _)
   | (with_reducible refine LeO.ite ?_ ?_)
   | (with_reducible refine LeO.bind ?_ (fun _ => ?_))
   | exact ih0 _ _ _
   | exact LeO.none _
   | refine LeO.ite ?_ ?_
   | refine LeO.bind ?_ (fun _ => ?_)
theorem laws_heldIntS.mono : ∀ a0 a1 k, LeO (laws_heldIntS.f k a0 a1) (laws_heldIntS.f (k + 1) a0 a1) := by
 intro a0 a1 k
 have ih0 := laws_heldIntS.mono_l k
 unfold laws_heldIntS.f
 repeat' first
   | (with_reducible exact ih0 _ _ _)
   | (with_reducible exact LeO.refl _)
   | (with_reducible exact LeO.none _)
   | (with_reducible refine LeO.ite ?_ ?_)
   | (with_reducible refine LeO.bind ?_ (fun _ => ?_))
   | exact ih0 _ _ _
   | exact LeO.none _
   | refine LeO.ite ?_ ?_
   | refine LeO.bind ?_ (fun _ => ?_)
set_option maxHeartbeats 8000000 in
set_option maxRecDepth 100000 in
theorem laws_heldIntS.calls (k : Nat) (A0 : Option Addr) (c0 : Nat) (l0 : List Int) (a1 : Int) (r : Int) (w : World) (hr0 : Kd.C (Kd.int .i64) w A0 l0.length l0) (hc0 : l0.length ≤ c0) (h : laws_heldIntS.f k l0 a1 = some r) :
  Calls Try.prog 47 #[.slice A0 l0.length c0, .int .i64 a1] w fun e w' => e = .returned (.int .i64 r) ∧ Drawn0 w w' := by
 have HR0 := Aside0.mk hr0
 have HC0 := Aside0.mk hc0
 clear hr0 hc0
 have H : (laws_heldIntS.l0 k l0 a1 0) = some r := h
 clear h
 have H' := Aside0.mk H
 clear H
 go_enter Try.func47, Try.ntmps47
 go_wp2
 go_loopg [1, 5] k (fun kq v1 v5 w' => ∃ (x1_1 : Int) (x5_1 : Int), v1 = .int .i64 x1_1 ∧ v5 = .int .i64 x5_1 ∧ Aside0 (laws_heldIntS.l0 kq l0 x1_1 x5_1 = some r) ∧ Aside0 (kq ≤ k) ∧ Drawn0 w w')
 case atStart => exact ⟨(a1), (0), (by first | rfl | (simp; done) | (simp [*]; done)), (by first | rfl | (simp; done) | (simp [*]; done)), H', ⟨Nat.le_refl _⟩, by repeat (first | exact Drawn0.refl _ | apply Drawn0.step)⟩
 case round =>
  clear H'
  try clear p2
  obtain ⟨x1_1, x5_1, rfl, rfl, HA, HK1, ⟨m1, rfl⟩⟩ := hrel
  cases gk with
  | zero => exact absurd HA.out (by simp [laws_heldIntS.l0])
  | succ k1 =>
   have H := HA.out
   clear HA
   simp only [laws_heldIntS.l0] at H
   by_cases c3 : x5_1 < (l0.length : Int)
   ·rw [if_pos c3] at H
    have c3b0 : decide (x5_1 < (l0.length : Int)) = true := decide_eq_true c3
    clear c3
    by_cases c4 : 0 ≤ x5_1
    ·rw [if_pos c4] at H
     have c4b0 : decide (0 ≤ x5_1) = true := decide_eq_true c4
     clear c4
     by_cases c5 : (rd l0 x5_1) = x1_1
     ·rw [if_pos c5] at H
      have c5b0 : ((rd l0 x5_1) == x1_1) = true := beq_iff_eq.mpr c5
      have c5b1 : ((rd l0 x5_1) != x1_1) = false := bne_eq_false_iff_eq.mpr c5
      clear c5
      have H' := Aside0.mk H
      clear H
      have p48001 : 0 ≤ (x5_1 : Int) := of_decide_eq_true (by first | (with_reducible assumption) | assumption)
      have q48001 : x5_1 < (l0.length : Int) := of_decide_eq_true (by first | (with_reducible assumption) | assumption)
      obtain ⟨ad48001, e48001, hx48001_0⟩ := Kd.at_int HR0.out x5_1 p48001 q48001
      cases e48001
      replace p48001 := eq_true p48001
      replace q48001 := eq_true q48001
      go_wp2
      go_roundg k1
      case measure => have := HK1.out; omega
      case rel => exact ⟨(wrap64 (x1_1 + 1)), (wrap64 (x5_1 + 1)), (by first | rfl | (simp; done) | (simp [*]; done)), (by first | rfl | (simp; done) | (simp [*]; done)), H', ⟨by have := HK1.out; omega⟩, by repeat (first | exact Drawn0.refl _ | apply Drawn0.step)⟩
     ·rw [if_neg c5] at H
      have c5b0 : ((rd l0 x5_1) == x1_1) = false := beq_eq_false_iff_ne.mpr c5
      have c5b1 : ((rd l0 x5_1) != x1_1) = true := bne_iff_ne.mpr c5
      obtain rfl := Option.some.inj H
      have p48001 : 0 ≤ (x5_1 : Int) := of_decide_eq_true (by first | (with_reducible assumption) | assumption)
      have q48001 : x5_1 < (l0.length : Int) := of_decide_eq_true (by first | (with_reducible assumption) | assumption)
      obtain ⟨ad48001, e48001, hx48001_0⟩ := Kd.at_int HR0.out x5_1 p48001 q48001
      cases e48001
      replace p48001 := eq_true p48001
      replace q48001 := eq_true q48001
      go_wp2
      go_ret
      exact ⟨by first | rfl | (simp; done) | (simp [*]; done), by repeat (first | exact Drawn0.refl _ | apply Drawn0.step)⟩
    ·rw [if_neg c4] at H
     exact absurd H (by simp)
   ·rw [if_neg c3] at H
    have c3b0 : decide (x5_1 < (l0.length : Int)) = false := decide_eq_false c3
    clear c3
    obtain rfl := Option.some.inj H
    go_wp2
    go_ret
    exact ⟨by first | rfl | (simp; done) | (simp [*]; done), by repeat (first | exact Drawn0.refl _ | apply Drawn0.step)⟩

end Go.Proofs.Ytnofkbbcbpjhfaa.Q

namespace Go.Proofs.Ytnofkbbcbpjhfaa.Q
open Go.RowKit Go.Proofs.YtnofkbbcbpjhfaaW.PrintWords Go.Proofs.YtnofkbbcbpjhfaaW.PrintLast Go.Proofs.YtnofkbbcbpjhfaaW.PrintMore
open Go.Proofs.YtnofkbbcbpjhfaaW.PrintWords.Aside0 (mk)
attribute [local go_sem] max2_int min2_int max_two min_two max_three min_three max_four min_four
set_option linter.unusedVariables false
set_option linter.unusedSimpArgs false
def laws_heldImage.f (k : Nat) (a0_0 : Int) (a0_1 : Int) (a0_2 : Int) (l0_3 : List Int) (a1 : Int) : Option (Int) := (laws_heldIntS.f k l0_3 a1).bind fun t60002 => (if t60002 < 0 then (some (-1)) else (some t60002))
theorem laws_heldImage.mono : ∀ a0 a1 a2 a3 a4 k, LeO (laws_heldImage.f k a0 a1 a2 a3 a4) (laws_heldImage.f (k + 1) a0 a1 a2 a3 a4) := by
 intro a0 a1 a2 a3 a4 k
 unfold laws_heldImage.f
 repeat' first
   | (with_reducible exact laws_heldIntS.mono _ _ _)
   | (with_reducible exact LeO.refl _)
   | (with_reducible exact LeO.none _)
   | (with_reducible refine LeO.ite ?_ ?_)
   | (with_reducible refine LeO.bind ?_ (fun _ => ?_))
   | exact laws_heldIntS.mono _ _ _
   | exact LeO.none _
   | refine LeO.ite ?_ ?_
   | refine LeO.bind ?_ (fun _ => ?_)
set_option maxHeartbeats 8000000 in
set_option maxRecDepth 100000 in
theorem laws_heldImage.calls (k : Nat) (a0_0 : Int) (a0_1 : Int) (a0_2 : Int) (A0_3 : Option Addr) (c0_3 : Nat) (l0_3 : List Int) (a1 : Int) (r : Int) (w : World) (hr0_3 : Kd.C (Kd.int .i64) w A0_3 l0_3.length l0_3) (hc0_3 : l0_3.length ≤ c0_3) (h : laws_heldImage.f k a0_0 a0_1 a0_2 l0_3 a1 = some r) :
  Calls Try.prog 59 #[.agg #[.int .i64 a0_0, .int .i64 a0_1, .int .i64 a0_2, .slice A0_3 l0_3.length c0_3], .int .i64 a1] w fun e w' => e = .returned (.int .i64 r) ∧ Below w.heap.size w w' := by
 have hu27 := Try.underlying27
 have HR0_3 := mk hr0_3
 have HC0_3 := mk hc0_3
 clear hr0_3 hc0_3
 have HB := mk (Below.refl w.heap.size w)
 have H : ((laws_heldIntS.f k l0_3 a1).bind fun t60002 => (if t60002 < 0 then (some (-1)) else (some t60002))) = some r := h
 clear h
 replace H := Option.bind_eq_some_iff.mp H
 obtain ⟨t60002, A30, H⟩ := H
 replace H : (if t60002 < 0 then (some (-1)) else (some t60002)) = some r := H
 have A3 := mk A30
 clear A30
 by_cases c4 : t60002 < 0
 ·rw [if_pos c4] at H
  have c4b0 : decide (t60002 < 0) = true := decide_eq_true c4
  clear c4
  obtain rfl := Option.some.inj H
  go_enter Try.func59, Try.ntmps59
  go_wp2_with (first | ((with_reducible refine gate_dst (N := 2) rfl ?_); refine box_event ?hg (N := 2) ?hd (cs := #[.int .i64 a0_0, .int .i64 a0_1, .int .i64 a0_2, .slice A0_3 l0_3.length c0_3]) (t := 27) ?hr ?_; (case hd => rfl); (case hg => rfl); (case hr => first | (go_simp; done) | (go_simp; rfl)); intro gb60001 hg w5 hbox hb; have n0_ := mk (below_step (by repeat (first | (with_reducible first | exact HB.out | apply below_alloc | apply pw_below_drewN | apply below_drew1) | exact HB.out)) hb); have n1_ := mk (hbox); have n2_ := mk ((by rw [hg]; exact (below_size (by repeat (first | (with_reducible first | exact HB.out | apply below_alloc | apply pw_below_drewN | apply below_drew1) | exact HB.out))) : w.heap.size ≤ gb60001)); have n3_ := mk ((by rw [hg]; exact (below_size (by repeat (first | (with_reducible first | exact HB.out | apply below_alloc | apply pw_below_drewN | apply below_drew1) | exact HB.out))) : w.heap.size ≤ gb60001)); clear HB; have HB := n0_; have BK60001 := n1_; have GW60001 := n2_; have GE60001 := n3_; clear n0_ n1_ n2_ n3_; clear hb hbox hg; have hcz6_0 : w5.cell? ⟨gb60001, 0, none⟩ = some (.int .i64 a0_0) := (blk_cell BK60001.out 0).trans rfl; have hcz6_1 : w5.cell? ⟨gb60001, 1, none⟩ = some (.int .i64 a0_1) := (blk_cell BK60001.out 1).trans rfl; have hcz6_2 : w5.cell? ⟨gb60001, 2, none⟩ = some (.int .i64 a0_2) := (blk_cell BK60001.out 2).trans rfl; have hcz6_3 : w5.cell? ⟨gb60001, 3, none⟩ = some (.slice A0_3 l0_3.length c0_3) := (blk_cell BK60001.out 3).trans rfl; have hfz6_0 := blk_frozen BK60001.out 0; have hfz6_1 := blk_frozen BK60001.out 1; have hfz6_2 := blk_frozen BK60001.out 2; have hfz6_3 := blk_frozen BK60001.out 3) | ((with_reducible refine gate_callee (f := 47) rfl ?_); refine goesL_ (some 8) rfl rfl Try.func47 (by kernel_rfl) rfl #[.slice A0_3 l0_3.length c0_3, .int .i64 a1] rfl (by (try simp only [List.map_toArray, List.map_cons, List.map_nil]); first | done | rfl | (simp only [List.length_drop, List.length_take]; rfl)) ?_; (with_reducible refine (laws_heldIntS.calls k _ _ l0_3 a1 t60002 _ ?side1 ?side2 A3.out).mono ?_); (case side1 => repeat (first | exact (Kd.C_below HR0_3.out HB.out) | (with_reducible refine Kd.C_alloc ?_ _) | (with_reducible refine Kd.C_drewN ?_ _) | (with_reducible refine Kd.C_drew ?_))); (case side2 => exact HC0_3.out); rintro e w' ⟨rfl, ⟨nd, rfl⟩⟩; refine ⟨_, rfl, ?_⟩))
  go_ret
  exact ⟨by first | rfl | (simp [errW_none, errW_some] <;> rfl) | (simp [*, errW_none, errW_some] <;> rfl), by repeat (first | (with_reducible first | exact HB.out | apply below_alloc | apply pw_below_drewN | apply below_drew1 | refine below_set ?_ GE60001.out) | exact HB.out)⟩
 ·rw [if_neg c4] at H
  have c4b0 : decide (t60002 < 0) = false := decide_eq_false c4
  clear c4
  obtain rfl := Option.some.inj H
  go_enter Try.func59, Try.ntmps59
  go_wp2_with (first | ((with_reducible refine gate_dst (N := 2) rfl ?_); refine box_event ?hg (N := 2) ?hd (cs := #[.int .i64 a0_0, .int .i64 a0_1, .int .i64 a0_2, .slice A0_3 l0_3.length c0_3]) (t := 27) ?hr ?_; (case hd => rfl); (case hg => rfl); (case hr => first | (go_simp; done) | (go_simp; rfl)); intro gb60001 hg w7 hbox hb; have n0_ := mk (below_step (by repeat (first | (with_reducible first | exact HB.out | apply below_alloc | apply pw_below_drewN | apply below_drew1) | exact HB.out)) hb); have n1_ := mk (hbox); have n2_ := mk ((by rw [hg]; exact (below_size (by repeat (first | (with_reducible first | exact HB.out | apply below_alloc | apply pw_below_drewN | apply below_drew1) | exact HB.out))) : w.heap.size ≤ gb60001)); have n3_ := mk ((by rw [hg]; exact (below_size (by repeat (first | (with_reducible first | exact HB.out | apply below_alloc | apply pw_below_drewN | apply below_drew1) | exact HB.out))) : w.heap.size ≤ gb60001)); clear HB; have HB := n0_; have BK60001 := n1_; have GW60001 := n2_; have GE60001 := n3_; clear n0_ n1_ n2_ n3_; clear hb hbox hg; have hcz8_0 : w7.cell? ⟨gb60001, 0, none⟩ = some (.int .i64 a0_0) := (blk_cell BK60001.out 0).trans rfl; have hcz8_1 : w7.cell? ⟨gb60001, 1, none⟩ = some (.int .i64 a0_1) := (blk_cell BK60001.out 1).trans rfl; have hcz8_2 : w7.cell? ⟨gb60001, 2, none⟩ = some (.int .i64 a0_2) := (blk_cell BK60001.out 2).trans rfl; have hcz8_3 : w7.cell? ⟨gb60001, 3, none⟩ = some (.slice A0_3 l0_3.length c0_3) := (blk_cell BK60001.out 3).trans rfl; have hfz8_0 := blk_frozen BK60001.out 0; have hfz8_1 := blk_frozen BK60001.out 1; have hfz8_2 := blk_frozen BK60001.out 2; have hfz8_3 := blk_frozen BK60001.out 3) | ((with_reducible refine gate_callee (f := 47) rfl ?_); refine goesL_ (some 8) rfl rfl Try.func47 (by kernel_rfl) rfl #[.slice A0_3 l0_3.length c0_3, .int .i64 a1] rfl (by (try simp only [List.map_toArray, List.map_cons, List.map_nil]); first | done | rfl | (simp only [List.length_drop, List.length_take]; rfl)) ?_; (with_reducible refine (laws_heldIntS.calls k _ _ l0_3 a1 t60002 _ ?side1 ?side2 A3.out).mono ?_); (case side1 => repeat (first | exact (Kd.C_below HR0_3.out HB.out) | (with_reducible refine Kd.C_alloc ?_ _) | (with_reducible refine Kd.C_drewN ?_ _) | (with_reducible refine Kd.C_drew ?_))); (case side2 => exact HC0_3.out); rintro e w' ⟨rfl, ⟨nd, rfl⟩⟩; refine ⟨_, rfl, ?_⟩))
  go_ret
  exact ⟨by first | rfl | (simp [errW_none, errW_some] <;> rfl) | (simp [*, errW_none, errW_some] <;> rfl), by repeat (first | (with_reducible first | exact HB.out | apply below_alloc | apply pw_below_drewN | apply below_drew1 | refine below_set ?_ GE60001.out) | exact HB.out)⟩

end Go.Proofs.Ytnofkbbcbpjhfaa.Q
