/- A part of the proof that the statement FnExactSimplifyStepsSaid holds, under no condition of its own: The program's SimplifySteps and the reference's return the same, and what is returned is held by nobody else: over lists of numbers alone. -/
import Derived.Test.YtgfjccegehnjcaaCFnExactSimplifySteps1
import Derived.Deep.Slices
import Derived.Deep.Fields
import Derived.ChangeSame
import Derived.ProofKit
import Derived.OpenShut
import Derived.ShutString
import Derived.ChangeOld
import Derived.SizedLaws
import GoSem.Claim
namespace Go.Proofs.Ytgfjccegehnjcaa.Q
open Go.RowKit Go.Proofs.YtgfjccegehnjcaaW.PrintWords Go.Proofs.YtgfjccegehnjcaaW.PrintLast Go.Proofs.YtgfjccegehnjcaaW.PrintMore
attribute [local go_sem] max2_int min2_int max_two min_two max_three min_three max_four min_four
set_option linter.unusedVariables false
set_option linter.unusedSimpArgs false
def laws_toStepS.l0 : Nat → List (S98) → List (S59) → Int → Option ((List (S59)))
  | 0, _, _, _ => none
  | k + 1, x0, x3, x4 => if x4 < (x0.length : Int) then (if 0 ≤ x4 then ((laws_toStep.f k ((rd_T98 x0 x4).f0) ((rd_T98 x0 x4).f1.f0) ((rd_T98 x0 x4).f1.f1) ((rd_T98 x0 x4).f1.f2) ((rd_T98 x0 x4).f1.f3) ((rd_T98 x0 x4).f2)).bind fun bt43005 => (if x4 < (x3.length : Int) then (laws_toStepS.l0 k x0 (x3.set (x4 : Int).toNat (⟨bt43005.1, (⟨bt43005.2.1, bt43005.2.2.1, bt43005.2.2.2.1, bt43005.2.2.2.2.1⟩ : S50), bt43005.2.2.2.2.2⟩ : S59)) (wrap64 (x4 + 1))) else (none))) else (none)) else (some x3)
def laws_toStepS.f (k : Nat) (l0 : List (S98)) : Option ((List (S59))) := if 0 ≤ (l0.length : Int) then (if ((l0.length : Int) : Int).toNat ≤ 4398046511104 then (laws_toStepS.l0 k l0 (List.replicate ((l0.length : Int) : Int).toNat z59) 0) else (none)) else (none)
set_option maxHeartbeats 8000000 in
set_option maxRecDepth 100000 in
theorem laws_toStepS.calls (k : Nat) (A0 : Option Addr) (c0 : Nat) (l0 : List (S98)) (r : List (S59)) (w : World) (hr0 : Kd.C k98 w A0 l0.length l0) (hc0 : l0.length ≤ c0) (h : laws_toStepS.f k l0 = some r) :
    Calls Try.prog 42 #[.slice A0 l0.length c0] w fun e w' => ∃ v0_ : Value, e = .returned (v0_) ∧ Kd.S k59 59 w' w.heap.size (fun _ => True) v0_ r ∧ Below w.heap.size w w' := by
  have hu98 := Try.underlying98
  have hu59 := Try.underlying59
  have HR0 := Aside0.mk hr0
  have HC0 := Aside0.mk hc0
  clear hr0 hc0
  have HB := Aside0.mk (Below.refl w.heap.size w)
  have H : (if 0 ≤ (l0.length : Int) then (if ((l0.length : Int) : Int).toNat ≤ 4398046511104 then (laws_toStepS.l0 k l0 (List.replicate ((l0.length : Int) : Int).toNat z59) 0) else (none)) else (none)) = some r := h
  clear h
  by_cases c2 : 0 ≤ (l0.length : Int)
  · rw [if_pos c2] at H
    have c2b0 := eq_true c2
    have c2b1 : decide (0 ≤ (l0.length : Int)) = true := decide_eq_true c2
    clear c2
    by_cases c3 : ((l0.length : Int) : Int).toNat ≤ 4398046511104
    · rw [if_pos c3] at H
      have c3b0 := eq_true c3
      have c3b1 : decide (((l0.length : Int) : Int).toNat ≤ 4398046511104) = true := decide_eq_true c3
      clear c3
      obtain ⟨y43001, hy43001⟩ : ∃ y_ : List (S59), y_ = (List.replicate ((l0.length : Int) : Int).toNat z59) := ⟨_, rfl⟩
      replace H : (laws_toStepS.l0 k l0 y43001 0) = some r := by first | (rw [hy43001]; with_reducible exact H) | (have H2_ := (Option.bind_some _ _).symm.trans H; rw [hy43001]; with_reducible exact H2_) | (have H2_ := (Option.bind_some _ _).symm.trans H; with_reducible exact H2_) | with_reducible exact H | (rw [hy43001]; exact H) | exact H
      have Ny43001 := Aside0.mk hy43001
      clear hy43001
      have H' := Aside0.mk H
      clear H
      go_enter Try.func42, Try.ntmps42
      go_wp2_with (first | ((with_reducible refine gate_dst (N := 7) rfl ?_); refine Kd.S_make k59 _ 59 rfl (N := 7) rfl 53 _ _ rfl (l0.length : Int) rfl rfl Try.underlying53 (.agg #[(.int .i64 0), (.int .i64 0), (.int .i64 0), (.int .i64 0), (.int .i64 0), (.slice none 0 0)]) 64 info59 rfl (by decide) (by omega) z59 (ok := fun _ => True) (okp := fun _ => True) (k59_mkM _ _ _ z59 (Kd.R_nil _ _ _ _ _)) (fun _ hk => hk) trivial (of_decide_eq_true (by first | (with_reducible assumption) | assumption)) (Nat.le_trans (Nat.mul_le_mul_right _ (of_decide_eq_true (by first | (with_reducible assumption) | assumption) : (l0.length : Int).toNat ≤ 4398046511104)) (by omega)) (Below.refl _ _) (Nat.le_refl _) ?_; intro v43002 w4 ho5 hb hg_ hnew_; clear hg_ hnew_; (first | rw [← Ny43001.out] at ho5 | (simp only [Int.reduceToNat] at ho5; rw [← Ny43001.out] at ho5)); have n0_ := Aside0.mk (Kd.S_lower ho5 (below_size (by repeat (first | (with_reducible first | exact HB.out | apply below_alloc | apply pw_below_drewN | apply below_drew1) | exact HB.out)))); have n1_ := Aside0.mk (below_step (by repeat (first | (with_reducible first | exact HB.out | apply below_alloc | apply pw_below_drewN | apply below_drew1) | exact HB.out)) hb); clear HB; have HO43003 := n0_; have HB := n1_; clear n0_ n1_; clear hb ho5))
      go_loopg [4] k (fun kq v4 w' => ∃ (x3_1 : List (S59)) (x4_1 : Int), v4 = .int .i64 x4_1 ∧ Aside0 (laws_toStepS.l0 kq l0 x3_1 x4_1 = some r) ∧ Aside0 (kq ≤ k) ∧ Aside0 (Kd.S k59 59 w' w.heap.size (fun _ => True) v43002 x3_1) ∧ Aside0 (Below w.heap.size w w'))
      case atStart => exact ⟨(y43001), (0), (by first | rfl | (simp; done) | (simp [*]; done)), H', ⟨Nat.le_refl _⟩, ⟨by (with_reducible repeat (first | apply Kd.S_alloc | apply Kd.S_drewN | apply Kd.S_drew)); exact HO43003.out⟩, ⟨by repeat (first | (with_reducible first | exact HB.out | apply below_alloc | apply pw_below_drewN | apply below_drew1) | exact HB.out)⟩⟩
      case round =>
        clear H'
        try clear c2
        try clear c2b0
        try clear c2b1
        try clear p2
        try clear c3
        try clear c3b0
        try clear c3b1
        try clear c4
        obtain ⟨x3_1, x4_1, rfl, HA, HK1, HO_3, HB⟩ := hrel
        cases gk with
        | zero => exact absurd HA.out (by simp [laws_toStepS.l0])
        | succ k1 =>
          have H := HA.out
          clear HA
          simp only [laws_toStepS.l0] at H
          by_cases c6 : x4_1 < (l0.length : Int)
          · rw [if_pos c6] at H
            have c6b0 : decide (x4_1 < (l0.length : Int)) = true := decide_eq_true c6
            clear c6
            by_cases c7 : 0 ≤ x4_1
            · rw [if_pos c7] at H
              have c7b0 : decide (0 ≤ x4_1) = true := decide_eq_true c7
              clear c7
              replace H := Option.bind_eq_some_iff.mp H
              obtain ⟨⟨t43005, t43006, t43007, t43008, t43009, t43010⟩, A80, H⟩ := H
              replace H : (if x4_1 < (x3_1.length : Int) then (laws_toStepS.l0 k1 l0 (x3_1.set (x4_1 : Int).toNat (⟨t43005, (⟨t43006, t43007, t43008, t43009⟩ : S50), t43010⟩ : S59)) (wrap64 (x4_1 + 1))) else (none)) = some r := H
              have A8 := Aside0.mk A80
              clear A80
              by_cases c9 : x4_1 < (x3_1.length : Int)
              · rw [if_pos c9] at H
                have c9b0 : decide (x4_1 < (x3_1.length : Int)) = true := decide_eq_true c9
                clear c9
                obtain ⟨y43013, hy43013⟩ : ∃ y_ : List (S59), y_ = (x3_1.set (x4_1 : Int).toNat (⟨t43005, (⟨t43006, t43007, t43008, t43009⟩ : S50), t43010⟩ : S59)) := ⟨_, rfl⟩
                replace H : (laws_toStepS.l0 k1 l0 y43013 (wrap64 (x4_1 + 1))) = some r := by first | (rw [hy43013]; with_reducible exact H) | (have H2_ := (Option.bind_some _ _).symm.trans H; rw [hy43013]; with_reducible exact H2_) | (have H2_ := (Option.bind_some _ _).symm.trans H; with_reducible exact H2_) | with_reducible exact H | (rw [hy43013]; exact H) | exact H
                have Ny43013 := Aside0.mk hy43013
                clear hy43013
                have H' := Aside0.mk H
                clear H
                have p43004 : 0 ≤ (x4_1 : Int) := of_decide_eq_true (by first | (with_reducible assumption) | assumption)
                have q43004 : x4_1 < (l0.length : Int) := of_decide_eq_true (by first | (with_reducible assumption) | assumption)
                obtain ⟨ad43004, A43004_5, c43004_5, e43004, hx43004_0, hx43004_1, hx43004_2, hx43004_3, hx43004_4, hx43004_5, hl43004_5, hi43004_5⟩ := at_T98 HR0.out x4_1 p43004 q43004
                cases e43004
                replace hx43004_0 := (HB.out.cell (World.block_lt_of_cell? w _ hx43004_0)).trans hx43004_0
                replace hx43004_1 := (HB.out.cell (World.block_lt_of_cell? w _ hx43004_1)).trans hx43004_1
                replace hx43004_2 := (HB.out.cell (World.block_lt_of_cell? w _ hx43004_2)).trans hx43004_2
                replace hx43004_3 := (HB.out.cell (World.block_lt_of_cell? w _ hx43004_3)).trans hx43004_3
                replace hx43004_4 := (HB.out.cell (World.block_lt_of_cell? w _ hx43004_4)).trans hx43004_4
                replace hx43004_5 := (HB.out.cell (World.block_lt_of_cell? w _ hx43004_5)).trans hx43004_5
                have HR43004_5 := Aside0.mk hi43004_5
                have HC43004_5 := Aside0.mk hl43004_5
                clear hi43004_5 hl43004_5
                replace p43004 := eq_true p43004
                replace q43004 := eq_true q43004
                go_wp2_with (first | ((with_reducible refine gate_callee (f := 77) rfl ?_); refine goesL_ (some 20) rfl rfl Try.func77 (by kernel_rfl) rfl #[.agg #[.int .i64 ((rd_T98 l0 x4_1).f0), .int .i64 ((rd_T98 l0 x4_1).f1.f0), .int .i64 ((rd_T98 l0 x4_1).f1.f1), .int .i64 ((rd_T98 l0 x4_1).f1.f2), .int .i64 ((rd_T98 l0 x4_1).f1.f3), .slice A43004_5 ((rd_T98 l0 x4_1).f2).length c43004_5]] rfl (by (try simp only [List.map_toArray, List.map_cons, List.map_nil]); first | done | rfl | (simp only [List.length_drop, List.length_take]; rfl)) ?_; (with_reducible refine (laws_toStep.calls k1 ((rd_T98 l0 x4_1).f0) ((rd_T98 l0 x4_1).f1.f0) ((rd_T98 l0 x4_1).f1.f1) ((rd_T98 l0 x4_1).f1.f2) ((rd_T98 l0 x4_1).f1.f3) _ _ ((rd_T98 l0 x4_1).f2) t43005 t43006 t43007 t43008 t43009 t43010 _ ?side1 ?side2 A8.out).mono ?_); (case side1 => repeat (first | exact (Kd.C_below HR43004_5.out HB.out) | (with_reducible refine Kd.C_alloc ?_ _) | (with_reducible refine Kd.C_drewN ?_ _) | (with_reducible refine Kd.C_drew ?_))); (case side2 => exact HC43004_5.out); rintro e w11 ⟨V_, rfl, ho0, hb⟩; obtain ⟨Av43011, cv43011, ev_⟩ := Kd.R_slice ho0; subst ev_; refine ⟨_, rfl, ?_⟩; have n0_ := Aside0.mk (Kd.S_elder' (by (with_reducible repeat (first | apply Kd.S_alloc | apply Kd.S_drewN | apply Kd.S_drew)); exact HO_3.out) (Kd.R_base ho0) hb); have n1_ := Aside0.mk (Kd.R_lower ho0 (below_size (by repeat (first | (with_reducible first | exact HB.out | apply below_alloc | apply pw_below_drewN | apply below_drew1) | exact HB.out)))); have n2_ := Aside0.mk (below_step (by repeat (first | (with_reducible first | exact HB.out | apply below_alloc | apply pw_below_drewN | apply below_drew1) | exact HB.out)) hb); clear HO_3; clear HB; have HO_3 := n0_; have HO43012 := n1_; have HB := n2_; clear n0_ n1_ n2_; (try clear hb); (try clear hb2); (try clear hk); (try clear hi); (try clear ho0); have p10 : 0 ≤ (x4_1 : Int) := of_decide_eq_true (by first | (with_reducible assumption) | assumption); have q10 : (x4_1 : Int) < ((x3_1.length : Int) : Int) := of_decide_eq_true (by first | (with_reducible assumption) | assumption); obtain ⟨go10, co10, eo10, gb10, gl10, cl10, HG10⟩ := Kd.S_form HO_3.out (by omega); (first | cases eo10 | (injection eo10 with ea_ en_ ec_; (first | subst ea_ | (injection ea_ with ea_; subst ea_)); subst ec_; clear en_)); have GB10 := Aside0.mk gb10; have GG10 := Aside0.mk HG10; clear gb10 gl10 HG10; obtain ⟨_, ce10, hcl10, hM10, hcc10, hfr10, _, _⟩ := Kd.S_elem HO_3.out z59 (x4_1 : Int) p10 q10; obtain ⟨ve10_5, rfl, ge10_5⟩ := k59_openM hM10; have hx10_0 : w11.cell? ⟨go10, (x4_1 : Int).toNat * 6, none⟩ = some (.int .i64 ((rd_T59 x3_1 x4_1).f0)) := hcc10 0 _ rfl; have hx10_1 : w11.cell? ⟨go10, (x4_1 : Int).toNat * 6 + 1, none⟩ = some (.int .i64 ((rd_T59 x3_1 x4_1).f1.f0)) := hcc10 1 _ rfl; have hx10_2 : w11.cell? ⟨go10, (x4_1 : Int).toNat * 6 + 2, none⟩ = some (.int .i64 ((rd_T59 x3_1 x4_1).f1.f1)) := hcc10 2 _ rfl; have hx10_3 : w11.cell? ⟨go10, (x4_1 : Int).toNat * 6 + 3, none⟩ = some (.int .i64 ((rd_T59 x3_1 x4_1).f1.f2)) := hcc10 3 _ rfl; have hx10_4 : w11.cell? ⟨go10, (x4_1 : Int).toNat * 6 + 4, none⟩ = some (.int .i64 ((rd_T59 x3_1 x4_1).f1.f3)) := hcc10 4 _ rfl; have hx10_5 : w11.cell? ⟨go10, (x4_1 : Int).toNat * 6 + 5, none⟩ = some (ve10_5) := hcc10 5 _ rfl; have hf10_0 : w11.frozen? ⟨go10, (x4_1 : Int).toNat * 6, none⟩ = false := hfr10 0; have hf10_1 : w11.frozen? ⟨go10, (x4_1 : Int).toNat * 6 + 1, none⟩ = false := hfr10 1; have hf10_2 : w11.frozen? ⟨go10, (x4_1 : Int).toNat * 6 + 2, none⟩ = false := hfr10 2; have hf10_3 : w11.frozen? ⟨go10, (x4_1 : Int).toNat * 6 + 3, none⟩ = false := hfr10 3; have hf10_4 : w11.frozen? ⟨go10, (x4_1 : Int).toNat * 6 + 4, none⟩ = false := hfr10 4; have hf10_5 : w11.frozen? ⟨go10, (x4_1 : Int).toNat * 6 + 5, none⟩ = false := hfr10 5; clear hcl10 hcc10 hfr10 hM10; replace p10 := eq_true p10; replace q10 := eq_true q10; have n_ := Aside0.mk (Kd.S_mono (ok' := (fun k_ => some k_ ≠ ((.slice Av43011 (t43010).length cv43011) : Value).ownBlock)) HO_3.out (fun k_ hk => hk.2)); clear HO_3; have HO_3 := n_; clear n_; have HX12 := Aside0.mk (show Kd.S k59 59 w11 w.heap.size (fun k_ => ((fun _ => True)) k_ ∧ ¬ ((fun k_ => some k_ = ((.slice Av43011 (t43010).length cv43011) : Value).ownBlock)) k_) (.slice (some ⟨go10, 0, none⟩) x3_1.length co10) x3_1 from (by (with_reducible repeat (first | apply Kd.S_alloc | apply Kd.S_drewN | apply Kd.S_drew)); exact Kd.S_mono HO_3.out (fun k_ hk => ⟨trivial, fun e_ => hk e_⟩))); obtain ⟨oki12, ce12, hcl12, hM12, hcc12, hfr12, hoki12, hH12⟩ := Kd.S_elem HX12.out z59 (x4_1 : Int) (of_decide_eq_true (by first | (with_reducible assumption) | assumption)) (by have h_ : (x4_1 : Int) < ((x3_1.length : Int) : Int) := of_decide_eq_true (by first | (with_reducible assumption) | assumption); first | exact h_ | (have e_ := (Kd.S_reads' HO_3.out).1; omega) | simpa using h_); obtain ⟨ve12_5, rfl, ge12_5⟩ := k59_openM hM12; have HP12 := Kd.S_seg hH12 (of_decide_eq_true (by first | (with_reducible assumption) | assumption)) (by have h_ : (x4_1 : Int) < ((x3_1.length : Int) : Int) := of_decide_eq_true (by first | (with_reducible assumption) | assumption); first | exact h_ | (have e_ := (Kd.S_reads' HO_3.out).1; omega) | simpa using h_) (seg := [.int .i64 t43005, .int .i64 t43006, .int .i64 t43007, .int .i64 t43008, .int .i64 t43009, (.slice Av43011 (t43010).length cv43011)]) (j := 0) (show 6 ≤ 6 from by decide) (x' := (⟨t43005, (⟨t43006, t43007, t43008, t43009⟩ : S50), t43010⟩ : S59)) (k59_mkM _ _ _ (⟨t43005, (⟨t43006, t43007, t43008, t43009⟩ : S50), t43010⟩ : S59) (Kd.R_mono (Kd.R_tight rfl (Kd.R_mono (ok' := fun k_ => ((fun _ => True)) k_ ∧ k_ ≠ go10) (Kd.R_apart' (HO43012.out) (Kd.S_typed HO_3.out) (by decide)) (fun k_ hk => ⟨trivial, fun e_ => (hk.2) (by rw [e_]; rfl)⟩))) (fun _ h_ => Or.inr (h_)))) (fun _ hk => hk) (fun k_ hk_ => ((Kd.R_mono (ok' := fun k_ => ((fun _ => True)) k_ ∧ k_ ≠ go10) (Kd.R_apart' (HO43012.out) (Kd.S_typed HO_3.out) (by decide)) (fun k_ hk => ⟨trivial, fun e_ => (hk.2) (by rw [e_]; rfl)⟩))).1 k_ hk_.symm); have hx12_0 := hcc12 0 _ rfl; (try simp only [show (k59).sz = 6 from rfl, Nat.mul_one, Nat.add_zero] at hx12_0); have hf12_0 := hfr12 0; (try simp only [show (k59).sz = 6 from rfl, Nat.mul_one, Nat.add_zero] at hf12_0); have hx12_1 := hcc12 1 _ rfl; (try simp only [show (k59).sz = 6 from rfl, Nat.mul_one, Nat.add_zero] at hx12_1); have hf12_1 := hfr12 1; (try simp only [show (k59).sz = 6 from rfl, Nat.mul_one, Nat.add_zero] at hf12_1); have hx12_2 := hcc12 2 _ rfl; (try simp only [show (k59).sz = 6 from rfl, Nat.mul_one, Nat.add_zero] at hx12_2); have hf12_2 := hfr12 2; (try simp only [show (k59).sz = 6 from rfl, Nat.mul_one, Nat.add_zero] at hf12_2); have hx12_3 := hcc12 3 _ rfl; (try simp only [show (k59).sz = 6 from rfl, Nat.mul_one, Nat.add_zero] at hx12_3); have hf12_3 := hfr12 3; (try simp only [show (k59).sz = 6 from rfl, Nat.mul_one, Nat.add_zero] at hf12_3); have hx12_4 := hcc12 4 _ rfl; (try simp only [show (k59).sz = 6 from rfl, Nat.mul_one, Nat.add_zero] at hx12_4); have hf12_4 := hfr12 4; (try simp only [show (k59).sz = 6 from rfl, Nat.mul_one, Nat.add_zero] at hf12_4); have hx12_5 := hcc12 5 _ rfl; (try simp only [show (k59).sz = 6 from rfl, Nat.mul_one, Nat.add_zero] at hx12_5); have hf12_5 := hfr12 5; (try simp only [show (k59).sz = 6 from rfl, Nat.mul_one, Nat.add_zero] at hf12_5); clear hcl12 hcc12 hfr12 hM12 hoki12 hH12) | ((with_reducible refine gate_store (t := 59) (p := 21) rfl ?_); refine store_event (t := 59) (p := 21) (v := ?vo_w13) (w1 := ((((((w11.setCell ⟨go10, (x4_1 : Int).toNat * 6, none⟩ (.int .i64 t43005)).setCell ⟨go10, (x4_1 : Int).toNat * 6 + 1, none⟩ (.int .i64 t43006)).setCell ⟨go10, (x4_1 : Int).toNat * 6 + 2, none⟩ (.int .i64 t43007)).setCell ⟨go10, (x4_1 : Int).toNat * 6 + 3, none⟩ (.int .i64 t43008)).setCell ⟨go10, (x4_1 : Int).toNat * 6 + 4, none⟩ (.int .i64 t43009)).setCell ⟨go10, (x4_1 : Int).toNat * 6 + 5, none⟩ ((.slice Av43011 (t43010).length cv43011)))) ?hg ?ho ?hn ?hr ?_; (case ho => rfl); (case hg => rfl); (case hn => rfl); (case hr => first | (go_simp; done) | (go_simp; rfl)); intro w13 hw; have hg : w11.grownBy w13 (some go10) := (by rw [hw]; exact HP12.2); have hp_ : Kd.S k59 59 w13 w.heap.size (fun _ => True) (.slice (some ⟨go10, 0, none⟩) x3_1.length co10) y43013 := (by rw [hw, Ny43013.out]; exact HP12.1); clear HP12; have n0_ := Aside0.mk (hp_); have n1_ := Aside0.mk ((by rw [hw]; exact below_set (below_set (below_set (below_set (below_set (below_set (HB.out) GB10.out) GB10.out) GB10.out) GB10.out) GB10.out) GB10.out : Below w.heap.size w w13)); clear HO_3; clear HB; clear HO43012; have HO_3 := n0_; have HB := n1_; clear n0_ n1_; clear hg hw hp_))
                go_roundg k1
                case measure => have := HK1.out; omega
                case rel => exact ⟨(y43013), (wrap64 (x4_1 + 1)), (by first | rfl | (simp; done) | (simp [*]; done)), H', ⟨by have := HK1.out; omega⟩, ⟨by (with_reducible repeat (first | apply Kd.S_alloc | apply Kd.S_drewN | apply Kd.S_drew)); exact HO_3.out⟩, ⟨by repeat (first | (with_reducible first | exact HB.out | apply below_alloc | apply pw_below_drewN | apply below_drew1) | exact HB.out)⟩⟩
              · rw [if_neg c9] at H
                exact absurd H (by simp)
            · rw [if_neg c7] at H
              exact absurd H (by simp)
          · rw [if_neg c6] at H
            have c6b0 : decide (x4_1 < (l0.length : Int)) = false := decide_eq_false c6
            clear c6
            obtain rfl := Option.some.inj H
            go_wp2
            go_ret
            exact ⟨_, by first | rfl | (simp [errW_none, errW_some] <;> rfl) | (simp [*, errW_none, errW_some] <;> rfl), by (with_reducible repeat (first | apply Kd.S_alloc | apply Kd.S_drewN | apply Kd.S_drew)); exact HO_3.out, by repeat (first | (with_reducible first | exact HB.out | apply below_alloc | apply pw_below_drewN | apply below_drew1) | exact HB.out)⟩
    · rw [if_neg c3] at H
      exact absurd H (by simp)
  · rw [if_neg c2] at H
    exact absurd H (by simp)


def laws_eqBox.f (a0_0 : Int) (a0_1 : Int) (a0_2 : Int) (a0_3 : Int) (a1_0 : Int) (a1_1 : Int) (a1_2 : Int) (a1_3 : Int) : Option (Bool) := if a0_0 = a1_0 then (if a0_1 = a1_1 then (if a0_2 = a1_2 then (if a0_3 = a1_3 then (some true) else (some false)) else (some false)) else (some false)) else (some false)
set_option maxHeartbeats 8000000 in
set_option maxRecDepth 100000 in
theorem laws_eqBox.calls (a0_0 : Int) (a0_1 : Int) (a0_2 : Int) (a0_3 : Int) (a1_0 : Int) (a1_1 : Int) (a1_2 : Int) (a1_3 : Int) (r : Bool) (w : World) (h : laws_eqBox.f a0_0 a0_1 a0_2 a0_3 a1_0 a1_1 a1_2 a1_3 = some r) :
    Calls Try.prog 54 #[.agg #[.int .i64 a0_0, .int .i64 a0_1, .int .i64 a0_2, .int .i64 a0_3], .agg #[.int .i64 a1_0, .int .i64 a1_1, .int .i64 a1_2, .int .i64 a1_3]] w fun e w' => e = .returned (.bool r) ∧ Below w.heap.size w w' := by
  have hu50 := Try.underlying50
  have HB := Aside0.mk (Below.refl w.heap.size w)
  have H : (if a0_0 = a1_0 then (if a0_1 = a1_1 then (if a0_2 = a1_2 then (if a0_3 = a1_3 then (some true) else (some false)) else (some false)) else (some false)) else (some false)) = some r := h
  clear h
  by_cases c3 : a0_0 = a1_0
  · rw [if_pos c3] at H
    have c3b0 : (a0_0 == a1_0) = true := beq_iff_eq.mpr c3
    have c3b1 : (a0_0 != a1_0) = false := bne_eq_false_iff_eq.mpr c3
    clear c3
    by_cases c4 : a0_1 = a1_1
    · rw [if_pos c4] at H
      have c4b0 : (a0_1 == a1_1) = true := beq_iff_eq.mpr c4
      have c4b1 : (a0_1 != a1_1) = false := bne_eq_false_iff_eq.mpr c4
      clear c4
      by_cases c5 : a0_2 = a1_2
      · rw [if_pos c5] at H
        have c5b0 : (a0_2 == a1_2) = true := beq_iff_eq.mpr c5
        have c5b1 : (a0_2 != a1_2) = false := bne_eq_false_iff_eq.mpr c5
        clear c5
        by_cases c6 : a0_3 = a1_3
        · rw [if_pos c6] at H
          have c6b0 : (a0_3 == a1_3) = true := beq_iff_eq.mpr c6
          have c6b1 : (a0_3 != a1_3) = false := bne_eq_false_iff_eq.mpr c6
          clear c6
          obtain rfl := Option.some.inj H
          go_enter Try.func54, Try.ntmps54
          go_wp2_with (first | ((with_reducible refine gate_dst (N := 2) rfl ?_); refine box_event ?hg (N := 2) ?hd (cs := #[.int .i64 a0_0, .int .i64 a0_1, .int .i64 a0_2, .int .i64 a0_3]) (t := 50) ?hr ?_; (case hd => rfl); (case hg => rfl); (case hr => first | (go_simp; done) | (go_simp; rfl)); intro gb55001 hg w7 hbox hb; have n0_ := Aside0.mk (below_step (by repeat (first | (with_reducible first | exact HB.out | apply below_alloc | apply pw_below_drewN | apply below_drew1) | exact HB.out)) hb); have n1_ := Aside0.mk (hbox); have n2_ := Aside0.mk ((by rw [hg]; exact (below_size (by repeat (first | (with_reducible first | exact HB.out | apply below_alloc | apply pw_below_drewN | apply below_drew1) | exact HB.out))) : w.heap.size ≤ gb55001)); have n3_ := Aside0.mk ((by rw [hg]; exact (below_size (by repeat (first | (with_reducible first | exact HB.out | apply below_alloc | apply pw_below_drewN | apply below_drew1) | exact HB.out))) : w.heap.size ≤ gb55001)); clear HB; have HB := n0_; have BK55001 := n1_; have GW55001 := n2_; have GE55001 := n3_; clear n0_ n1_ n2_ n3_; clear hb hbox hg) | ((with_reducible refine gate_dst (N := 3) rfl ?_); refine box_event ?hg (N := 3) ?hd (cs := #[.int .i64 a1_0, .int .i64 a1_1, .int .i64 a1_2, .int .i64 a1_3]) (t := 50) ?hr ?_; (case hd => rfl); (case hg => rfl); (case hr => first | (go_simp; done) | (go_simp; rfl)); intro gb55002 hg w8 hbox hb; have n0_ := Aside0.mk (blk_below (g := gb55001) (o := .cells #[.int .i64 a0_0, .int .i64 a0_1, .int .i64 a0_2, .int .i64 a0_3] 50 (0, 0)) (by (with_reducible repeat (first | refine blk_drewN ?_ _ | refine blk_drew ?_ | refine blk_alloc ?_ _)); exact BK55001.out) hb); have n1_ := Aside0.mk (below_step (by repeat (first | (with_reducible first | exact HB.out | apply below_alloc | apply pw_below_drewN | apply below_drew1 | refine below_set ?_ GE55001.out) | exact HB.out)) hb); have n2_ := Aside0.mk (hbox); have n3_ := Aside0.mk ((by rw [hg]; exact (below_size (by repeat (first | (with_reducible first | exact HB.out | apply below_alloc | apply pw_below_drewN | apply below_drew1 | refine below_set ?_ GE55001.out) | exact HB.out))) : w.heap.size ≤ gb55002)); have n4_ := Aside0.mk ((by rw [hg]; exact (below_size (by repeat (first | (with_reducible first | exact HB.out | apply below_alloc | apply pw_below_drewN | apply below_drew1 | refine below_set ?_ GE55001.out) | exact HB.out))) : w.heap.size ≤ gb55002)); have n5_ := Aside0.mk ((by rw [hg]; exact Nat.ne_of_lt (blk_lt (g := gb55001) (o := .cells #[.int .i64 a0_0, .int .i64 a0_1, .int .i64 a0_2, .int .i64 a0_3] 50 (0, 0)) (by (with_reducible repeat (first | refine blk_drewN ?_ _ | refine blk_drew ?_ | refine blk_alloc ?_ _)); exact BK55001.out)) : gb55001 ≠ gb55002)); have n6_ := Aside0.mk ((by rw [hg]; exact Nat.ne_of_gt (blk_lt (g := gb55001) (o := .cells #[.int .i64 a0_0, .int .i64 a0_1, .int .i64 a0_2, .int .i64 a0_3] 50 (0, 0)) (by (with_reducible repeat (first | refine blk_drewN ?_ _ | refine blk_drew ?_ | refine blk_alloc ?_ _)); exact BK55001.out)) : gb55002 ≠ gb55001)); clear BK55001; clear HB; have BK55001 := n0_; have HB := n1_; have BK55002 := n2_; have GW55002 := n3_; have GE55002 := n4_; have NB55001_55002 := n5_; have NB55002_55001 := n6_; clear n0_ n1_ n2_ n3_ n4_ n5_ n6_; clear hb hbox hg; have hnb9 := NB55001_55002.out; have hnc9 := NB55002_55001.out; have hcz10_0 : w8.cell? ⟨gb55001, 0, none⟩ = some (.int .i64 a0_0) := (blk_cell BK55001.out 0).trans rfl; have hcz10_1 : w8.cell? ⟨gb55001, 1, none⟩ = some (.int .i64 a0_1) := (blk_cell BK55001.out 1).trans rfl; have hcz10_2 : w8.cell? ⟨gb55001, 2, none⟩ = some (.int .i64 a0_2) := (blk_cell BK55001.out 2).trans rfl; have hcz10_3 : w8.cell? ⟨gb55001, 3, none⟩ = some (.int .i64 a0_3) := (blk_cell BK55001.out 3).trans rfl; have hfz10_0 := blk_frozen BK55001.out 0; have hfz10_1 := blk_frozen BK55001.out 1; have hfz10_2 := blk_frozen BK55001.out 2; have hfz10_3 := blk_frozen BK55001.out 3; have hcz11_0 : w8.cell? ⟨gb55002, 0, none⟩ = some (.int .i64 a1_0) := (blk_cell BK55002.out 0).trans rfl; have hcz11_1 : w8.cell? ⟨gb55002, 1, none⟩ = some (.int .i64 a1_1) := (blk_cell BK55002.out 1).trans rfl; have hcz11_2 : w8.cell? ⟨gb55002, 2, none⟩ = some (.int .i64 a1_2) := (blk_cell BK55002.out 2).trans rfl; have hcz11_3 : w8.cell? ⟨gb55002, 3, none⟩ = some (.int .i64 a1_3) := (blk_cell BK55002.out 3).trans rfl; have hfz11_0 := blk_frozen BK55002.out 0; have hfz11_1 := blk_frozen BK55002.out 1; have hfz11_2 := blk_frozen BK55002.out 2; have hfz11_3 := blk_frozen BK55002.out 3))
          go_ret
          exact ⟨by first | rfl | (simp [errW_none, errW_some] <;> rfl) | (simp [*, errW_none, errW_some] <;> rfl), by repeat (first | (with_reducible first | exact HB.out | apply below_alloc | apply pw_below_drewN | apply below_drew1 | refine below_set ?_ GE55001.out | refine below_set ?_ GE55002.out) | exact HB.out)⟩
        · rw [if_neg c6] at H
          have c6b0 : (a0_3 == a1_3) = false := beq_eq_false_iff_ne.mpr c6
          have c6b1 : (a0_3 != a1_3) = true := bne_iff_ne.mpr c6
          obtain rfl := Option.some.inj H
          go_enter Try.func54, Try.ntmps54
          go_wp2_with (first | ((with_reducible refine gate_dst (N := 2) rfl ?_); refine box_event ?hg (N := 2) ?hd (cs := #[.int .i64 a0_0, .int .i64 a0_1, .int .i64 a0_2, .int .i64 a0_3]) (t := 50) ?hr ?_; (case hd => rfl); (case hg => rfl); (case hr => first | (go_simp; done) | (go_simp; rfl)); intro gb55001 hg w12 hbox hb; have n0_ := Aside0.mk (below_step (by repeat (first | (with_reducible first | exact HB.out | apply below_alloc | apply pw_below_drewN | apply below_drew1) | exact HB.out)) hb); have n1_ := Aside0.mk (hbox); have n2_ := Aside0.mk ((by rw [hg]; exact (below_size (by repeat (first | (with_reducible first | exact HB.out | apply below_alloc | apply pw_below_drewN | apply below_drew1) | exact HB.out))) : w.heap.size ≤ gb55001)); have n3_ := Aside0.mk ((by rw [hg]; exact (below_size (by repeat (first | (with_reducible first | exact HB.out | apply below_alloc | apply pw_below_drewN | apply below_drew1) | exact HB.out))) : w.heap.size ≤ gb55001)); clear HB; have HB := n0_; have BK55001 := n1_; have GW55001 := n2_; have GE55001 := n3_; clear n0_ n1_ n2_ n3_; clear hb hbox hg) | ((with_reducible refine gate_dst (N := 3) rfl ?_); refine box_event ?hg (N := 3) ?hd (cs := #[.int .i64 a1_0, .int .i64 a1_1, .int .i64 a1_2, .int .i64 a1_3]) (t := 50) ?hr ?_; (case hd => rfl); (case hg => rfl); (case hr => first | (go_simp; done) | (go_simp; rfl)); intro gb55002 hg w13 hbox hb; have n0_ := Aside0.mk (blk_below (g := gb55001) (o := .cells #[.int .i64 a0_0, .int .i64 a0_1, .int .i64 a0_2, .int .i64 a0_3] 50 (0, 0)) (by (with_reducible repeat (first | refine blk_drewN ?_ _ | refine blk_drew ?_ | refine blk_alloc ?_ _)); exact BK55001.out) hb); have n1_ := Aside0.mk (below_step (by repeat (first | (with_reducible first | exact HB.out | apply below_alloc | apply pw_below_drewN | apply below_drew1 | refine below_set ?_ GE55001.out) | exact HB.out)) hb); have n2_ := Aside0.mk (hbox); have n3_ := Aside0.mk ((by rw [hg]; exact (below_size (by repeat (first | (with_reducible first | exact HB.out | apply below_alloc | apply pw_below_drewN | apply below_drew1 | refine below_set ?_ GE55001.out) | exact HB.out))) : w.heap.size ≤ gb55002)); have n4_ := Aside0.mk ((by rw [hg]; exact (below_size (by repeat (first | (with_reducible first | exact HB.out | apply below_alloc | apply pw_below_drewN | apply below_drew1 | refine below_set ?_ GE55001.out) | exact HB.out))) : w.heap.size ≤ gb55002)); have n5_ := Aside0.mk ((by rw [hg]; exact Nat.ne_of_lt (blk_lt (g := gb55001) (o := .cells #[.int .i64 a0_0, .int .i64 a0_1, .int .i64 a0_2, .int .i64 a0_3] 50 (0, 0)) (by (with_reducible repeat (first | refine blk_drewN ?_ _ | refine blk_drew ?_ | refine blk_alloc ?_ _)); exact BK55001.out)) : gb55001 ≠ gb55002)); have n6_ := Aside0.mk ((by rw [hg]; exact Nat.ne_of_gt (blk_lt (g := gb55001) (o := .cells #[.int .i64 a0_0, .int .i64 a0_1, .int .i64 a0_2, .int .i64 a0_3] 50 (0, 0)) (by (with_reducible repeat (first | refine blk_drewN ?_ _ | refine blk_drew ?_ | refine blk_alloc ?_ _)); exact BK55001.out)) : gb55002 ≠ gb55001)); clear BK55001; clear HB; have BK55001 := n0_; have HB := n1_; have BK55002 := n2_; have GW55002 := n3_; have GE55002 := n4_; have NB55001_55002 := n5_; have NB55002_55001 := n6_; clear n0_ n1_ n2_ n3_ n4_ n5_ n6_; clear hb hbox hg; have hnb14 := NB55001_55002.out; have hnc14 := NB55002_55001.out; have hcz15_0 : w13.cell? ⟨gb55001, 0, none⟩ = some (.int .i64 a0_0) := (blk_cell BK55001.out 0).trans rfl; have hcz15_1 : w13.cell? ⟨gb55001, 1, none⟩ = some (.int .i64 a0_1) := (blk_cell BK55001.out 1).trans rfl; have hcz15_2 : w13.cell? ⟨gb55001, 2, none⟩ = some (.int .i64 a0_2) := (blk_cell BK55001.out 2).trans rfl; have hcz15_3 : w13.cell? ⟨gb55001, 3, none⟩ = some (.int .i64 a0_3) := (blk_cell BK55001.out 3).trans rfl; have hfz15_0 := blk_frozen BK55001.out 0; have hfz15_1 := blk_frozen BK55001.out 1; have hfz15_2 := blk_frozen BK55001.out 2; have hfz15_3 := blk_frozen BK55001.out 3; have hcz16_0 : w13.cell? ⟨gb55002, 0, none⟩ = some (.int .i64 a1_0) := (blk_cell BK55002.out 0).trans rfl; have hcz16_1 : w13.cell? ⟨gb55002, 1, none⟩ = some (.int .i64 a1_1) := (blk_cell BK55002.out 1).trans rfl; have hcz16_2 : w13.cell? ⟨gb55002, 2, none⟩ = some (.int .i64 a1_2) := (blk_cell BK55002.out 2).trans rfl; have hcz16_3 : w13.cell? ⟨gb55002, 3, none⟩ = some (.int .i64 a1_3) := (blk_cell BK55002.out 3).trans rfl; have hfz16_0 := blk_frozen BK55002.out 0; have hfz16_1 := blk_frozen BK55002.out 1; have hfz16_2 := blk_frozen BK55002.out 2; have hfz16_3 := blk_frozen BK55002.out 3))
          go_ret
          exact ⟨by first | rfl | (simp [errW_none, errW_some] <;> rfl) | (simp [*, errW_none, errW_some] <;> rfl), by repeat (first | (with_reducible first | exact HB.out | apply below_alloc | apply pw_below_drewN | apply below_drew1 | refine below_set ?_ GE55001.out | refine below_set ?_ GE55002.out) | exact HB.out)⟩
      · rw [if_neg c5] at H
        have c5b0 : (a0_2 == a1_2) = false := beq_eq_false_iff_ne.mpr c5
        have c5b1 : (a0_2 != a1_2) = true := bne_iff_ne.mpr c5
        obtain rfl := Option.some.inj H
        go_enter Try.func54, Try.ntmps54
        go_wp2_with (first | ((with_reducible refine gate_dst (N := 2) rfl ?_); refine box_event ?hg (N := 2) ?hd (cs := #[.int .i64 a0_0, .int .i64 a0_1, .int .i64 a0_2, .int .i64 a0_3]) (t := 50) ?hr ?_; (case hd => rfl); (case hg => rfl); (case hr => first | (go_simp; done) | (go_simp; rfl)); intro gb55001 hg w17 hbox hb; have n0_ := Aside0.mk (below_step (by repeat (first | (with_reducible first | exact HB.out | apply below_alloc | apply pw_below_drewN | apply below_drew1) | exact HB.out)) hb); have n1_ := Aside0.mk (hbox); have n2_ := Aside0.mk ((by rw [hg]; exact (below_size (by repeat (first | (with_reducible first | exact HB.out | apply below_alloc | apply pw_below_drewN | apply below_drew1) | exact HB.out))) : w.heap.size ≤ gb55001)); have n3_ := Aside0.mk ((by rw [hg]; exact (below_size (by repeat (first | (with_reducible first | exact HB.out | apply below_alloc | apply pw_below_drewN | apply below_drew1) | exact HB.out))) : w.heap.size ≤ gb55001)); clear HB; have HB := n0_; have BK55001 := n1_; have GW55001 := n2_; have GE55001 := n3_; clear n0_ n1_ n2_ n3_; clear hb hbox hg) | ((with_reducible refine gate_dst (N := 3) rfl ?_); refine box_event ?hg (N := 3) ?hd (cs := #[.int .i64 a1_0, .int .i64 a1_1, .int .i64 a1_2, .int .i64 a1_3]) (t := 50) ?hr ?_; (case hd => rfl); (case hg => rfl); (case hr => first | (go_simp; done) | (go_simp; rfl)); intro gb55002 hg w18 hbox hb; have n0_ := Aside0.mk (blk_below (g := gb55001) (o := .cells #[.int .i64 a0_0, .int .i64 a0_1, .int .i64 a0_2, .int .i64 a0_3] 50 (0, 0)) (by (with_reducible repeat (first | refine blk_drewN ?_ _ | refine blk_drew ?_ | refine blk_alloc ?_ _)); exact BK55001.out) hb); have n1_ := Aside0.mk (below_step (by repeat (first | (with_reducible first | exact HB.out | apply below_alloc | apply pw_below_drewN | apply below_drew1 | refine below_set ?_ GE55001.out) | exact HB.out)) hb); have n2_ := Aside0.mk (hbox); have n3_ := Aside0.mk ((by rw [hg]; exact (below_size (by repeat (first | (with_reducible first | exact HB.out | apply below_alloc | apply pw_below_drewN | apply below_drew1 | refine below_set ?_ GE55001.out) | exact HB.out))) : w.heap.size ≤ gb55002)); have n4_ := Aside0.mk ((by rw [hg]; exact (below_size (by repeat (first | (with_reducible first | exact HB.out | apply below_alloc | apply pw_below_drewN | apply below_drew1 | refine below_set ?_ GE55001.out) | exact HB.out))) : w.heap.size ≤ gb55002)); have n5_ := Aside0.mk ((by rw [hg]; exact Nat.ne_of_lt (blk_lt (g := gb55001) (o := .cells #[.int .i64 a0_0, .int .i64 a0_1, .int .i64 a0_2, .int .i64 a0_3] 50 (0, 0)) (by (with_reducible repeat (first | refine blk_drewN ?_ _ | refine blk_drew ?_ | refine blk_alloc ?_ _)); exact BK55001.out)) : gb55001 ≠ gb55002)); have n6_ := Aside0.mk ((by rw [hg]; exact Nat.ne_of_gt (blk_lt (g := gb55001) (o := .cells #[.int .i64 a0_0, .int .i64 a0_1, .int .i64 a0_2, .int .i64 a0_3] 50 (0, 0)) (by (with_reducible repeat (first | refine blk_drewN ?_ _ | refine blk_drew ?_ | refine blk_alloc ?_ _)); exact BK55001.out)) : gb55002 ≠ gb55001)); clear BK55001; clear HB; have BK55001 := n0_; have HB := n1_; have BK55002 := n2_; have GW55002 := n3_; have GE55002 := n4_; have NB55001_55002 := n5_; have NB55002_55001 := n6_; clear n0_ n1_ n2_ n3_ n4_ n5_ n6_; clear hb hbox hg; have hnb19 := NB55001_55002.out; have hnc19 := NB55002_55001.out; have hcz20_0 : w18.cell? ⟨gb55001, 0, none⟩ = some (.int .i64 a0_0) := (blk_cell BK55001.out 0).trans rfl; have hcz20_1 : w18.cell? ⟨gb55001, 1, none⟩ = some (.int .i64 a0_1) := (blk_cell BK55001.out 1).trans rfl; have hcz20_2 : w18.cell? ⟨gb55001, 2, none⟩ = some (.int .i64 a0_2) := (blk_cell BK55001.out 2).trans rfl; have hcz20_3 : w18.cell? ⟨gb55001, 3, none⟩ = some (.int .i64 a0_3) := (blk_cell BK55001.out 3).trans rfl; have hfz20_0 := blk_frozen BK55001.out 0; have hfz20_1 := blk_frozen BK55001.out 1; have hfz20_2 := blk_frozen BK55001.out 2; have hfz20_3 := blk_frozen BK55001.out 3; have hcz21_0 : w18.cell? ⟨gb55002, 0, none⟩ = some (.int .i64 a1_0) := (blk_cell BK55002.out 0).trans rfl; have hcz21_1 : w18.cell? ⟨gb55002, 1, none⟩ = some (.int .i64 a1_1) := (blk_cell BK55002.out 1).trans rfl; have hcz21_2 : w18.cell? ⟨gb55002, 2, none⟩ = some (.int .i64 a1_2) := (blk_cell BK55002.out 2).trans rfl; have hcz21_3 : w18.cell? ⟨gb55002, 3, none⟩ = some (.int .i64 a1_3) := (blk_cell BK55002.out 3).trans rfl; have hfz21_0 := blk_frozen BK55002.out 0; have hfz21_1 := blk_frozen BK55002.out 1; have hfz21_2 := blk_frozen BK55002.out 2; have hfz21_3 := blk_frozen BK55002.out 3))
        go_ret
        exact ⟨by first | rfl | (simp [errW_none, errW_some] <;> rfl) | (simp [*, errW_none, errW_some] <;> rfl), by repeat (first | (with_reducible first | exact HB.out | apply below_alloc | apply pw_below_drewN | apply below_drew1 | refine below_set ?_ GE55001.out | refine below_set ?_ GE55002.out) | exact HB.out)⟩
    · rw [if_neg c4] at H
      have c4b0 : (a0_1 == a1_1) = false := beq_eq_false_iff_ne.mpr c4
      have c4b1 : (a0_1 != a1_1) = true := bne_iff_ne.mpr c4
      obtain rfl := Option.some.inj H
      go_enter Try.func54, Try.ntmps54
      go_wp2_with (first | ((with_reducible refine gate_dst (N := 2) rfl ?_); refine box_event ?hg (N := 2) ?hd (cs := #[.int .i64 a0_0, .int .i64 a0_1, .int .i64 a0_2, .int .i64 a0_3]) (t := 50) ?hr ?_; (case hd => rfl); (case hg => rfl); (case hr => first | (go_simp; done) | (go_simp; rfl)); intro gb55001 hg w22 hbox hb; have n0_ := Aside0.mk (below_step (by repeat (first | (with_reducible first | exact HB.out | apply below_alloc | apply pw_below_drewN | apply below_drew1) | exact HB.out)) hb); have n1_ := Aside0.mk (hbox); have n2_ := Aside0.mk ((by rw [hg]; exact (below_size (by repeat (first | (with_reducible first | exact HB.out | apply below_alloc | apply pw_below_drewN | apply below_drew1) | exact HB.out))) : w.heap.size ≤ gb55001)); have n3_ := Aside0.mk ((by rw [hg]; exact (below_size (by repeat (first | (with_reducible first | exact HB.out | apply below_alloc | apply pw_below_drewN | apply below_drew1) | exact HB.out))) : w.heap.size ≤ gb55001)); clear HB; have HB := n0_; have BK55001 := n1_; have GW55001 := n2_; have GE55001 := n3_; clear n0_ n1_ n2_ n3_; clear hb hbox hg) | ((with_reducible refine gate_dst (N := 3) rfl ?_); refine box_event ?hg (N := 3) ?hd (cs := #[.int .i64 a1_0, .int .i64 a1_1, .int .i64 a1_2, .int .i64 a1_3]) (t := 50) ?hr ?_; (case hd => rfl); (case hg => rfl); (case hr => first | (go_simp; done) | (go_simp; rfl)); intro gb55002 hg w23 hbox hb; have n0_ := Aside0.mk (blk_below (g := gb55001) (o := .cells #[.int .i64 a0_0, .int .i64 a0_1, .int .i64 a0_2, .int .i64 a0_3] 50 (0, 0)) (by (with_reducible repeat (first | refine blk_drewN ?_ _ | refine blk_drew ?_ | refine blk_alloc ?_ _)); exact BK55001.out) hb); have n1_ := Aside0.mk (below_step (by repeat (first | (with_reducible first | exact HB.out | apply below_alloc | apply pw_below_drewN | apply below_drew1 | refine below_set ?_ GE55001.out) | exact HB.out)) hb); have n2_ := Aside0.mk (hbox); have n3_ := Aside0.mk ((by rw [hg]; exact (below_size (by repeat (first | (with_reducible first | exact HB.out | apply below_alloc | apply pw_below_drewN | apply below_drew1 | refine below_set ?_ GE55001.out) | exact HB.out))) : w.heap.size ≤ gb55002)); have n4_ := Aside0.mk ((by rw [hg]; exact (below_size (by repeat (first | (with_reducible first | exact HB.out | apply below_alloc | apply pw_below_drewN | apply below_drew1 | refine below_set ?_ GE55001.out) | exact HB.out))) : w.heap.size ≤ gb55002)); have n5_ := Aside0.mk ((by rw [hg]; exact Nat.ne_of_lt (blk_lt (g := gb55001) (o := .cells #[.int .i64 a0_0, .int .i64 a0_1, .int .i64 a0_2, .int .i64 a0_3] 50 (0, 0)) (by (with_reducible repeat (first | refine blk_drewN ?_ _ | refine blk_drew ?_ | refine blk_alloc ?_ _)); exact BK55001.out)) : gb55001 ≠ gb55002)); have n6_ := Aside0.mk ((by rw [hg]; exact Nat.ne_of_gt (blk_lt (g := gb55001) (o := .cells #[.int .i64 a0_0, .int .i64 a0_1, .int .i64 a0_2, .int .i64 a0_3] 50 (0, 0)) (by (with_reducible repeat (first | refine blk_drewN ?_ _ | refine blk_drew ?_ | refine blk_alloc ?_ _)); exact BK55001.out)) : gb55002 ≠ gb55001)); clear BK55001; clear HB; have BK55001 := n0_; have HB := n1_; have BK55002 := n2_; have GW55002 := n3_; have GE55002 := n4_; have NB55001_55002 := n5_; have NB55002_55001 := n6_; clear n0_ n1_ n2_ n3_ n4_ n5_ n6_; clear hb hbox hg; have hnb24 := NB55001_55002.out; have hnc24 := NB55002_55001.out; have hcz25_0 : w23.cell? ⟨gb55001, 0, none⟩ = some (.int .i64 a0_0) := (blk_cell BK55001.out 0).trans rfl; have hcz25_1 : w23.cell? ⟨gb55001, 1, none⟩ = some (.int .i64 a0_1) := (blk_cell BK55001.out 1).trans rfl; have hcz25_2 : w23.cell? ⟨gb55001, 2, none⟩ = some (.int .i64 a0_2) := (blk_cell BK55001.out 2).trans rfl; have hcz25_3 : w23.cell? ⟨gb55001, 3, none⟩ = some (.int .i64 a0_3) := (blk_cell BK55001.out 3).trans rfl; have hfz25_0 := blk_frozen BK55001.out 0; have hfz25_1 := blk_frozen BK55001.out 1; have hfz25_2 := blk_frozen BK55001.out 2; have hfz25_3 := blk_frozen BK55001.out 3; have hcz26_0 : w23.cell? ⟨gb55002, 0, none⟩ = some (.int .i64 a1_0) := (blk_cell BK55002.out 0).trans rfl; have hcz26_1 : w23.cell? ⟨gb55002, 1, none⟩ = some (.int .i64 a1_1) := (blk_cell BK55002.out 1).trans rfl; have hcz26_2 : w23.cell? ⟨gb55002, 2, none⟩ = some (.int .i64 a1_2) := (blk_cell BK55002.out 2).trans rfl; have hcz26_3 : w23.cell? ⟨gb55002, 3, none⟩ = some (.int .i64 a1_3) := (blk_cell BK55002.out 3).trans rfl; have hfz26_0 := blk_frozen BK55002.out 0; have hfz26_1 := blk_frozen BK55002.out 1; have hfz26_2 := blk_frozen BK55002.out 2; have hfz26_3 := blk_frozen BK55002.out 3))
      go_ret
      exact ⟨by first | rfl | (simp [errW_none, errW_some] <;> rfl) | (simp [*, errW_none, errW_some] <;> rfl), by repeat (first | (with_reducible first | exact HB.out | apply below_alloc | apply pw_below_drewN | apply below_drew1 | refine below_set ?_ GE55001.out | refine below_set ?_ GE55002.out) | exact HB.out)⟩
  · rw [if_neg c3] at H
    have c3b0 : (a0_0 == a1_0) = false := beq_eq_false_iff_ne.mpr c3
    have c3b1 : (a0_0 != a1_0) = true := bne_iff_ne.mpr c3
    obtain rfl := Option.some.inj H
    go_enter Try.func54, Try.ntmps54
    go_wp2_with (first | ((with_reducible refine gate_dst (N := 2) rfl ?_); refine box_event ?hg (N := 2) ?hd (cs := #[.int .i64 a0_0, .int .i64 a0_1, .int .i64 a0_2, .int .i64 a0_3]) (t := 50) ?hr ?_; (case hd => rfl); (case hg => rfl); (case hr => first | (go_simp; done) | (go_simp; rfl)); intro gb55001 hg w27 hbox hb; have n0_ := Aside0.mk (below_step (by repeat (first | (with_reducible first | exact HB.out | apply below_alloc | apply pw_below_drewN | apply below_drew1) | exact HB.out)) hb); have n1_ := Aside0.mk (hbox); have n2_ := Aside0.mk ((by rw [hg]; exact (below_size (by repeat (first | (with_reducible first | exact HB.out | apply below_alloc | apply pw_below_drewN | apply below_drew1) | exact HB.out))) : w.heap.size ≤ gb55001)); have n3_ := Aside0.mk ((by rw [hg]; exact (below_size (by repeat (first | (with_reducible first | exact HB.out | apply below_alloc | apply pw_below_drewN | apply below_drew1) | exact HB.out))) : w.heap.size ≤ gb55001)); clear HB; have HB := n0_; have BK55001 := n1_; have GW55001 := n2_; have GE55001 := n3_; clear n0_ n1_ n2_ n3_; clear hb hbox hg) | ((with_reducible refine gate_dst (N := 3) rfl ?_); refine box_event ?hg (N := 3) ?hd (cs := #[.int .i64 a1_0, .int .i64 a1_1, .int .i64 a1_2, .int .i64 a1_3]) (t := 50) ?hr ?_; (case hd => rfl); (case hg => rfl); (case hr => first | (go_simp; done) | (go_simp; rfl)); intro gb55002 hg w28 hbox hb; have n0_ := Aside0.mk (blk_below (g := gb55001) (o := .cells #[.int .i64 a0_0, .int .i64 a0_1, .int .i64 a0_2, .int .i64 a0_3] 50 (0, 0)) (by (with_reducible repeat (first | refine blk_drewN ?_ _ | refine blk_drew ?_ | refine blk_alloc ?_ _)); exact BK55001.out) hb); have n1_ := Aside0.mk (below_step (by repeat (first | (with_reducible first | exact HB.out | apply below_alloc | apply pw_below_drewN | apply below_drew1 | refine below_set ?_ GE55001.out) | exact HB.out)) hb); have n2_ := Aside0.mk (hbox); have n3_ := Aside0.mk ((by rw [hg]; exact (below_size (by repeat (first | (with_reducible first | exact HB.out | apply below_alloc | apply pw_below_drewN | apply below_drew1 | refine below_set ?_ GE55001.out) | exact HB.out))) : w.heap.size ≤ gb55002)); have n4_ := Aside0.mk ((by rw [hg]; exact (below_size (by repeat (first | (with_reducible first | exact HB.out | apply below_alloc | apply pw_below_drewN | apply below_drew1 | refine below_set ?_ GE55001.out) | exact HB.out))) : w.heap.size ≤ gb55002)); have n5_ := Aside0.mk ((by rw [hg]; exact Nat.ne_of_lt (blk_lt (g := gb55001) (o := .cells #[.int .i64 a0_0, .int .i64 a0_1, .int .i64 a0_2, .int .i64 a0_3] 50 (0, 0)) (by (with_reducible repeat (first | refine blk_drewN ?_ _ | refine blk_drew ?_ | refine blk_alloc ?_ _)); exact BK55001.out)) : gb55001 ≠ gb55002)); have n6_ := Aside0.mk ((by rw [hg]; exact Nat.ne_of_gt (blk_lt (g := gb55001) (o := .cells #[.int .i64 a0_0, .int .i64 a0_1, .int .i64 a0_2, .int .i64 a0_3] 50 (0, 0)) (by (with_reducible repeat (first | refine blk_drewN ?_ _ | refine blk_drew ?_ | refine blk_alloc ?_ _)); exact BK55001.out)) : gb55002 ≠ gb55001)); clear BK55001; clear HB; have BK55001 := n0_; have HB := n1_; have BK55002 := n2_; have GW55002 := n3_; have GE55002 := n4_; have NB55001_55002 := n5_; have NB55002_55001 := n6_; clear n0_ n1_ n2_ n3_ n4_ n5_ n6_; clear hb hbox hg; have hnb29 := NB55001_55002.out; have hnc29 := NB55002_55001.out; have hcz30_0 : w28.cell? ⟨gb55001, 0, none⟩ = some (.int .i64 a0_0) := (blk_cell BK55001.out 0).trans rfl; have hcz30_1 : w28.cell? ⟨gb55001, 1, none⟩ = some (.int .i64 a0_1) := (blk_cell BK55001.out 1).trans rfl; have hcz30_2 : w28.cell? ⟨gb55001, 2, none⟩ = some (.int .i64 a0_2) := (blk_cell BK55001.out 2).trans rfl; have hcz30_3 : w28.cell? ⟨gb55001, 3, none⟩ = some (.int .i64 a0_3) := (blk_cell BK55001.out 3).trans rfl; have hfz30_0 := blk_frozen BK55001.out 0; have hfz30_1 := blk_frozen BK55001.out 1; have hfz30_2 := blk_frozen BK55001.out 2; have hfz30_3 := blk_frozen BK55001.out 3; have hcz31_0 : w28.cell? ⟨gb55002, 0, none⟩ = some (.int .i64 a1_0) := (blk_cell BK55002.out 0).trans rfl; have hcz31_1 : w28.cell? ⟨gb55002, 1, none⟩ = some (.int .i64 a1_1) := (blk_cell BK55002.out 1).trans rfl; have hcz31_2 : w28.cell? ⟨gb55002, 2, none⟩ = some (.int .i64 a1_2) := (blk_cell BK55002.out 2).trans rfl; have hcz31_3 : w28.cell? ⟨gb55002, 3, none⟩ = some (.int .i64 a1_3) := (blk_cell BK55002.out 3).trans rfl; have hfz31_0 := blk_frozen BK55002.out 0; have hfz31_1 := blk_frozen BK55002.out 1; have hfz31_2 := blk_frozen BK55002.out 2; have hfz31_3 := blk_frozen BK55002.out 3))
    go_ret
    exact ⟨by first | rfl | (simp [errW_none, errW_some] <;> rfl) | (simp [*, errW_none, errW_some] <;> rfl), by repeat (first | (with_reducible first | exact HB.out | apply below_alloc | apply pw_below_drewN | apply below_drew1 | refine below_set ?_ GE55001.out | refine below_set ?_ GE55002.out) | exact HB.out)⟩


def laws_eqIntS.l0 : Nat → List Int → List Int → Int → Option (Bool)
  | 0, _, _, _ => none
  | k + 1, x0, x1, x5 => if x5 < (x0.length : Int) then (if 0 ≤ x5 then (if x5 < (x1.length : Int) then (if (rd x0 x5) = (rd x1 x5) then (laws_eqIntS.l0 k x0 x1 (wrap64 (x5 + 1))) else (some false)) else (none)) else (none)) else (some true)
def laws_eqIntS.f (k : Nat) (l0 : List Int) (l1 : List Int) : Option (Bool) := if (l0.length : Int) = (l1.length : Int) then (laws_eqIntS.l0 k l0 l1 0) else (some false)
set_option maxHeartbeats 8000000 in
set_option maxRecDepth 100000 in
theorem laws_eqIntS.calls (k : Nat) (A0 : Option Addr) (c0 : Nat) (l0 : List Int) (A1 : Option Addr) (c1 : Nat) (l1 : List Int) (r : Bool) (w : World) (hr0 : Kd.C (Kd.int .i64) w A0 l0.length l0) (hc0 : l0.length ≤ c0) (hr1 : Kd.C (Kd.int .i64) w A1 l1.length l1) (hc1 : l1.length ≤ c1) (h : laws_eqIntS.f k l0 l1 = some r) :
    Calls Try.prog 95 #[.slice A0 l0.length c0, .slice A1 l1.length c1] w fun e w' => e = .returned (.bool r) ∧ Drawn0 w w' := by
  have HR0 := Aside0.mk hr0
  have HC0 := Aside0.mk hc0
  clear hr0 hc0
  have HR1 := Aside0.mk hr1
  have HC1 := Aside0.mk hc1
  clear hr1 hc1
  have H : (if (l0.length : Int) = (l1.length : Int) then (laws_eqIntS.l0 k l0 l1 0) else (some false)) = some r := h
  clear h
  by_cases c3 : (l0.length : Int) = (l1.length : Int)
  · rw [if_pos c3] at H
    have c3b0 : ((l0.length : Int) == (l1.length : Int)) = true := beq_iff_eq.mpr c3
    have c3b1 : ((l0.length : Int) != (l1.length : Int)) = false := bne_eq_false_iff_eq.mpr c3
    have c3b2 : (l0.length == l1.length) = true := by first | simpa using c3 | (simp at c3 ⊢; omega)
    clear c3
    have H' := Aside0.mk H
    clear H
    go_enter Try.func95, Try.ntmps95
    go_wp2
    repeat (go_quiet (fail); try go_wp2)
    go_loopg [5] k (fun kq v5 w' => ∃ (x5_1 : Int), v5 = .int .i64 x5_1 ∧ Aside0 (laws_eqIntS.l0 kq l0 l1 x5_1 = some r) ∧ Aside0 (kq ≤ k) ∧ Drawn0 w w')
    case atStart => exact ⟨(0), (by first | rfl | (simp; done) | (simp [*]; done)), H', ⟨Nat.le_refl _⟩, by repeat (first | exact Drawn0.refl _ | apply Drawn0.step)⟩
    case round =>
      clear H'
      try clear c1
      try clear p2
      try clear c3
      try clear c3b0
      try clear c3b1
      try clear c3b2
      obtain ⟨x5_1, rfl, HA, HK1, ⟨m1, rfl⟩⟩ := hrel
      cases gk with
      | zero => exact absurd HA.out (by simp [laws_eqIntS.l0])
      | succ k1 =>
        have H := HA.out
        clear HA
        simp only [laws_eqIntS.l0] at H
        by_cases c4 : x5_1 < (l0.length : Int)
        · rw [if_pos c4] at H
          have c4b0 : decide (x5_1 < (l0.length : Int)) = true := decide_eq_true c4
          clear c4
          by_cases c5 : 0 ≤ x5_1
          · rw [if_pos c5] at H
            have c5b0 : decide (0 ≤ x5_1) = true := decide_eq_true c5
            clear c5
            by_cases c6 : x5_1 < (l1.length : Int)
            · rw [if_pos c6] at H
              have c6b0 : decide (x5_1 < (l1.length : Int)) = true := decide_eq_true c6
              clear c6
              by_cases c7 : (rd l0 x5_1) = (rd l1 x5_1)
              · rw [if_pos c7] at H
                have c7b0 : ((rd l0 x5_1) == (rd l1 x5_1)) = true := beq_iff_eq.mpr c7
                have c7b1 : ((rd l0 x5_1) != (rd l1 x5_1)) = false := bne_eq_false_iff_eq.mpr c7
                clear c7
                have H' := Aside0.mk H
                clear H
                have p96001 : 0 ≤ (x5_1 : Int) := of_decide_eq_true (by first | (with_reducible assumption) | assumption)
                have q96001 : x5_1 < (l0.length : Int) := of_decide_eq_true (by first | (with_reducible assumption) | assumption)
                obtain ⟨ad96001, e96001, hx96001_0⟩ := Kd.at_int HR0.out x5_1 p96001 q96001
                cases e96001
                replace p96001 := eq_true p96001
                replace q96001 := eq_true q96001
                have p96002 : 0 ≤ (x5_1 : Int) := of_decide_eq_true (by first | (with_reducible assumption) | assumption)
                have q96002 : x5_1 < (l1.length : Int) := of_decide_eq_true (by first | (with_reducible assumption) | assumption)
                obtain ⟨ad96002, e96002, hx96002_0⟩ := Kd.at_int HR1.out x5_1 p96002 q96002
                cases e96002
                replace p96002 := eq_true p96002
                replace q96002 := eq_true q96002
                go_wp2
                repeat (go_quiet (fail); try go_wp2)
                go_roundg k1
                case measure => have := HK1.out; omega
                case rel => exact ⟨(wrap64 (x5_1 + 1)), (by first | rfl | (simp; done) | (simp [*]; done)), H', ⟨by have := HK1.out; omega⟩, by repeat (first | exact Drawn0.refl _ | apply Drawn0.step)⟩
              · rw [if_neg c7] at H
                have c7b0 : ((rd l0 x5_1) == (rd l1 x5_1)) = false := beq_eq_false_iff_ne.mpr c7
                have c7b1 : ((rd l0 x5_1) != (rd l1 x5_1)) = true := bne_iff_ne.mpr c7
                obtain rfl := Option.some.inj H
                have p96001 : 0 ≤ (x5_1 : Int) := of_decide_eq_true (by first | (with_reducible assumption) | assumption)
                have q96001 : x5_1 < (l0.length : Int) := of_decide_eq_true (by first | (with_reducible assumption) | assumption)
                obtain ⟨ad96001, e96001, hx96001_0⟩ := Kd.at_int HR0.out x5_1 p96001 q96001
                cases e96001
                replace p96001 := eq_true p96001
                replace q96001 := eq_true q96001
                have p96002 : 0 ≤ (x5_1 : Int) := of_decide_eq_true (by first | (with_reducible assumption) | assumption)
                have q96002 : x5_1 < (l1.length : Int) := of_decide_eq_true (by first | (with_reducible assumption) | assumption)
                obtain ⟨ad96002, e96002, hx96002_0⟩ := Kd.at_int HR1.out x5_1 p96002 q96002
                cases e96002
                replace p96002 := eq_true p96002
                replace q96002 := eq_true q96002
                go_wp2
                repeat (go_quiet (fail); try go_wp2)
                go_ret
                exact ⟨by first | rfl | (simp; done) | (simp [*]; done), by repeat (first | exact Drawn0.refl _ | apply Drawn0.step)⟩
            · rw [if_neg c6] at H
              exact absurd H (by simp)
          · rw [if_neg c5] at H
            exact absurd H (by simp)
        · rw [if_neg c4] at H
          have c4b0 : decide (x5_1 < (l0.length : Int)) = false := decide_eq_false c4
          clear c4
          obtain rfl := Option.some.inj H
          go_wp2
          repeat (go_quiet (fail); try go_wp2)
          go_ret
          exact ⟨by first | rfl | (simp; done) | (simp [*]; done), by repeat (first | exact Drawn0.refl _ | apply Drawn0.step)⟩
  · rw [if_neg c3] at H
    have c3b0 : ((l0.length : Int) == (l1.length : Int)) = false := beq_eq_false_iff_ne.mpr c3
    have c3b1 : ((l0.length : Int) != (l1.length : Int)) = true := bne_iff_ne.mpr c3
    have c3b2 : (l0.length == l1.length) = false := by first | simpa using c3 | (simp at c3 ⊢; omega)
    obtain rfl := Option.some.inj H
    go_enter Try.func95, Try.ntmps95
    go_wp2
    repeat (go_quiet (fail); try go_wp2)
    go_ret
    exact ⟨by first | rfl | (simp; done) | (simp [*]; done), by repeat (first | exact Drawn0.refl _ | apply Drawn0.step)⟩


def laws_eqStep.f (k : Nat) (a0_0 : Int) (a0_1 : Int) (a0_2 : Int) (a0_3 : Int) (a0_4 : Int) (l0_5 : List Int) (a1_0 : Int) (a1_1 : Int) (a1_2 : Int) (a1_3 : Int) (a1_4 : Int) (l1_5 : List Int) : Option (Bool) := if a0_0 = a1_0 then ((laws_eqBox.f a0_1 a0_2 a0_3 a0_4 a1_1 a1_2 a1_3 a1_4).bind fun t79003 => (if t79003 = true then ((laws_eqIntS.f k l0_5 l1_5).bind fun t79004 => (if t79004 = true then (some true) else (some false))) else (some false))) else (some false)
set_option maxHeartbeats 8000000 in
set_option maxRecDepth 100000 in
theorem laws_eqStep.calls (k : Nat) (a0_0 : Int) (a0_1 : Int) (a0_2 : Int) (a0_3 : Int) (a0_4 : Int) (A0_5 : Option Addr) (c0_5 : Nat) (l0_5 : List Int) (a1_0 : Int) (a1_1 : Int) (a1_2 : Int) (a1_3 : Int) (a1_4 : Int) (A1_5 : Option Addr) (c1_5 : Nat) (l1_5 : List Int) (r : Bool) (w : World) (hr0_5 : Kd.C (Kd.int .i64) w A0_5 l0_5.length l0_5) (hc0_5 : l0_5.length ≤ c0_5) (hr1_5 : Kd.C (Kd.int .i64) w A1_5 l1_5.length l1_5) (hc1_5 : l1_5.length ≤ c1_5) (h : laws_eqStep.f k a0_0 a0_1 a0_2 a0_3 a0_4 l0_5 a1_0 a1_1 a1_2 a1_3 a1_4 l1_5 = some r) :
    Calls Try.prog 78 #[.agg #[.int .i64 a0_0, .int .i64 a0_1, .int .i64 a0_2, .int .i64 a0_3, .int .i64 a0_4, .slice A0_5 l0_5.length c0_5], .agg #[.int .i64 a1_0, .int .i64 a1_1, .int .i64 a1_2, .int .i64 a1_3, .int .i64 a1_4, .slice A1_5 l1_5.length c1_5]] w fun e w' => e = .returned (.bool r) ∧ Below w.heap.size w w' := by
  have hu59 := Try.underlying59
  have hu50 := Try.underlying50
  have HR0_5 := Aside0.mk hr0_5
  have HC0_5 := Aside0.mk hc0_5
  clear hr0_5 hc0_5
  have HR1_5 := Aside0.mk hr1_5
  have HC1_5 := Aside0.mk hc1_5
  clear hr1_5 hc1_5
  have HB := Aside0.mk (Below.refl w.heap.size w)
  have H : (if a0_0 = a1_0 then ((laws_eqBox.f a0_1 a0_2 a0_3 a0_4 a1_1 a1_2 a1_3 a1_4).bind fun t79003 => (if t79003 = true then ((laws_eqIntS.f k l0_5 l1_5).bind fun t79004 => (if t79004 = true then (some true) else (some false))) else (some false))) else (some false)) = some r := h
  clear h
  by_cases c3 : a0_0 = a1_0
  · rw [if_pos c3] at H
    have c3b0 : (a0_0 == a1_0) = true := beq_iff_eq.mpr c3
    have c3b1 : (a0_0 != a1_0) = false := bne_eq_false_iff_eq.mpr c3
    clear c3
    replace H := Option.bind_eq_some_iff.mp H
    obtain ⟨t79003, A40, H⟩ := H
    replace H : (if t79003 = true then ((laws_eqIntS.f k l0_5 l1_5).bind fun t79004 => (if t79004 = true then (some true) else (some false))) else (some false)) = some r := H
    have A4 := Aside0.mk A40
    clear A40
    by_cases c5 : t79003 = true
    · subst c5
      have H1 : ((laws_eqIntS.f k l0_5 l1_5).bind fun t79004 => (if t79004 = true then (some true) else (some false))) = some r := by rw [if_pos rfl] at H; exact H
      clear H
      have H := H1
      clear H1
      replace H := Option.bind_eq_some_iff.mp H
      obtain ⟨t79004, A60, H⟩ := H
      replace H : (if t79004 = true then (some true) else (some false)) = some r := H
      have A6 := Aside0.mk A60
      clear A60
      by_cases c7 : t79004 = true
      · subst c7
        have H1 : (some true) = some r := by rw [if_pos rfl] at H; exact H
        clear H
        have H := H1
        clear H1
        obtain rfl := Option.some.inj H
        go_enter Try.func78, Try.ntmps78
        go_wp2_with (first | ((with_reducible refine gate_dst (N := 2) rfl ?_); refine box_event ?hg (N := 2) ?hd (cs := #[.int .i64 a0_0, .int .i64 a0_1, .int .i64 a0_2, .int .i64 a0_3, .int .i64 a0_4, .slice A0_5 l0_5.length c0_5]) (t := 59) ?hr ?_; (case hd => rfl); (case hg => rfl); (case hr => first | (go_simp; done) | (go_simp; rfl)); intro gb79001 hg w8 hbox hb; have n0_ := Aside0.mk (below_step (by repeat (first | (with_reducible first | exact HB.out | apply below_alloc | apply pw_below_drewN | apply below_drew1) | exact HB.out)) hb); have n1_ := Aside0.mk (hbox); have n2_ := Aside0.mk ((by rw [hg]; exact (below_size (by repeat (first | (with_reducible first | exact HB.out | apply below_alloc | apply pw_below_drewN | apply below_drew1) | exact HB.out))) : w.heap.size ≤ gb79001)); have n3_ := Aside0.mk ((by rw [hg]; exact (below_size (by repeat (first | (with_reducible first | exact HB.out | apply below_alloc | apply pw_below_drewN | apply below_drew1) | exact HB.out))) : w.heap.size ≤ gb79001)); clear HB; have HB := n0_; have BK79001 := n1_; have GW79001 := n2_; have GE79001 := n3_; clear n0_ n1_ n2_ n3_; clear hb hbox hg) | ((with_reducible refine gate_dst (N := 3) rfl ?_); refine box_event ?hg (N := 3) ?hd (cs := #[.int .i64 a1_0, .int .i64 a1_1, .int .i64 a1_2, .int .i64 a1_3, .int .i64 a1_4, .slice A1_5 l1_5.length c1_5]) (t := 59) ?hr ?_; (case hd => rfl); (case hg => rfl); (case hr => first | (go_simp; done) | (go_simp; rfl)); intro gb79002 hg w9 hbox hb; have n0_ := Aside0.mk (blk_below (g := gb79001) (o := .cells #[.int .i64 a0_0, .int .i64 a0_1, .int .i64 a0_2, .int .i64 a0_3, .int .i64 a0_4, .slice A0_5 l0_5.length c0_5] 59 (0, 0)) (by (with_reducible repeat (first | refine blk_drewN ?_ _ | refine blk_drew ?_ | refine blk_alloc ?_ _)); exact BK79001.out) hb); have n1_ := Aside0.mk (below_step (by repeat (first | (with_reducible first | exact HB.out | apply below_alloc | apply pw_below_drewN | apply below_drew1 | refine below_set ?_ GE79001.out) | exact HB.out)) hb); have n2_ := Aside0.mk (hbox); have n3_ := Aside0.mk ((by rw [hg]; exact (below_size (by repeat (first | (with_reducible first | exact HB.out | apply below_alloc | apply pw_below_drewN | apply below_drew1 | refine below_set ?_ GE79001.out) | exact HB.out))) : w.heap.size ≤ gb79002)); have n4_ := Aside0.mk ((by rw [hg]; exact (below_size (by repeat (first | (with_reducible first | exact HB.out | apply below_alloc | apply pw_below_drewN | apply below_drew1 | refine below_set ?_ GE79001.out) | exact HB.out))) : w.heap.size ≤ gb79002)); have n5_ := Aside0.mk ((by rw [hg]; exact Nat.ne_of_lt (blk_lt (g := gb79001) (o := .cells #[.int .i64 a0_0, .int .i64 a0_1, .int .i64 a0_2, .int .i64 a0_3, .int .i64 a0_4, .slice A0_5 l0_5.length c0_5] 59 (0, 0)) (by (with_reducible repeat (first | refine blk_drewN ?_ _ | refine blk_drew ?_ | refine blk_alloc ?_ _)); exact BK79001.out)) : gb79001 ≠ gb79002)); have n6_ := Aside0.mk ((by rw [hg]; exact Nat.ne_of_gt (blk_lt (g := gb79001) (o := .cells #[.int .i64 a0_0, .int .i64 a0_1, .int .i64 a0_2, .int .i64 a0_3, .int .i64 a0_4, .slice A0_5 l0_5.length c0_5] 59 (0, 0)) (by (with_reducible repeat (first | refine blk_drewN ?_ _ | refine blk_drew ?_ | refine blk_alloc ?_ _)); exact BK79001.out)) : gb79002 ≠ gb79001)); clear BK79001; clear HB; have BK79001 := n0_; have HB := n1_; have BK79002 := n2_; have GW79002 := n3_; have GE79002 := n4_; have NB79001_79002 := n5_; have NB79002_79001 := n6_; clear n0_ n1_ n2_ n3_ n4_ n5_ n6_; clear hb hbox hg; have hnb10 := NB79001_79002.out; have hnc10 := NB79002_79001.out; have hcz11_0 : w9.cell? ⟨gb79001, 0, none⟩ = some (.int .i64 a0_0) := (blk_cell BK79001.out 0).trans rfl; have hcz11_1 : w9.cell? ⟨gb79001, 1, none⟩ = some (.int .i64 a0_1) := (blk_cell BK79001.out 1).trans rfl; have hcz11_2 : w9.cell? ⟨gb79001, 2, none⟩ = some (.int .i64 a0_2) := (blk_cell BK79001.out 2).trans rfl; have hcz11_3 : w9.cell? ⟨gb79001, 3, none⟩ = some (.int .i64 a0_3) := (blk_cell BK79001.out 3).trans rfl; have hcz11_4 : w9.cell? ⟨gb79001, 4, none⟩ = some (.int .i64 a0_4) := (blk_cell BK79001.out 4).trans rfl; have hcz11_5 : w9.cell? ⟨gb79001, 5, none⟩ = some (.slice A0_5 l0_5.length c0_5) := (blk_cell BK79001.out 5).trans rfl; have hfz11_0 := blk_frozen BK79001.out 0; have hfz11_1 := blk_frozen BK79001.out 1; have hfz11_2 := blk_frozen BK79001.out 2; have hfz11_3 := blk_frozen BK79001.out 3; have hfz11_4 := blk_frozen BK79001.out 4; have hfz11_5 := blk_frozen BK79001.out 5; have hcz12_0 : w9.cell? ⟨gb79002, 0, none⟩ = some (.int .i64 a1_0) := (blk_cell BK79002.out 0).trans rfl; have hcz12_1 : w9.cell? ⟨gb79002, 1, none⟩ = some (.int .i64 a1_1) := (blk_cell BK79002.out 1).trans rfl; have hcz12_2 : w9.cell? ⟨gb79002, 2, none⟩ = some (.int .i64 a1_2) := (blk_cell BK79002.out 2).trans rfl; have hcz12_3 : w9.cell? ⟨gb79002, 3, none⟩ = some (.int .i64 a1_3) := (blk_cell BK79002.out 3).trans rfl; have hcz12_4 : w9.cell? ⟨gb79002, 4, none⟩ = some (.int .i64 a1_4) := (blk_cell BK79002.out 4).trans rfl; have hcz12_5 : w9.cell? ⟨gb79002, 5, none⟩ = some (.slice A1_5 l1_5.length c1_5) := (blk_cell BK79002.out 5).trans rfl; have hfz12_0 := blk_frozen BK79002.out 0; have hfz12_1 := blk_frozen BK79002.out 1; have hfz12_2 := blk_frozen BK79002.out 2; have hfz12_3 := blk_frozen BK79002.out 3; have hfz12_4 := blk_frozen BK79002.out 4; have hfz12_5 := blk_frozen BK79002.out 5) | ((with_reducible refine gate_callee (f := 54) rfl ?_); refine goesL_ (some 14) rfl rfl Try.func54 (by kernel_rfl) rfl #[.agg #[.int .i64 a0_1, .int .i64 a0_2, .int .i64 a0_3, .int .i64 a0_4], .agg #[.int .i64 a1_1, .int .i64 a1_2, .int .i64 a1_3, .int .i64 a1_4]] rfl (by (try simp only [List.map_toArray, List.map_cons, List.map_nil]); first | done | rfl | (simp only [List.length_drop, List.length_take]; rfl)) ?_; (with_reducible refine (laws_eqBox.calls a0_1 a0_2 a0_3 a0_4 a1_1 a1_2 a1_3 a1_4 true _ A4.out).mono ?_); rintro e w13 ⟨rfl, hb⟩; refine ⟨_, rfl, ?_⟩; have n0_ := Aside0.mk (blk_below (g := gb79001) (o := .cells #[.int .i64 a0_0, .int .i64 a0_1, .int .i64 a0_2, .int .i64 a0_3, .int .i64 a0_4, .slice A0_5 l0_5.length c0_5] 59 (0, 0)) (by (with_reducible repeat (first | refine blk_drewN ?_ _ | refine blk_drew ?_ | refine blk_alloc ?_ _)); exact BK79001.out) hb); have n1_ := Aside0.mk (blk_below (g := gb79002) (o := .cells #[.int .i64 a1_0, .int .i64 a1_1, .int .i64 a1_2, .int .i64 a1_3, .int .i64 a1_4, .slice A1_5 l1_5.length c1_5] 59 (0, 0)) (by (with_reducible repeat (first | refine blk_drewN ?_ _ | refine blk_drew ?_ | refine blk_alloc ?_ _)); exact BK79002.out) hb); have n2_ := Aside0.mk (below_step (by repeat (first | (with_reducible first | exact HB.out | apply below_alloc | apply pw_below_drewN | apply below_drew1 | refine below_set ?_ GE79001.out | refine below_set ?_ GE79002.out) | exact HB.out)) hb); clear BK79001; clear BK79002; clear HB; have BK79001 := n0_; have BK79002 := n1_; have HB := n2_; clear n0_ n1_ n2_; (try clear hb); (try clear hb2); (try clear hk); (try clear hi); have hcz14_0 : w13.cell? ⟨gb79001, 0, none⟩ = some (.int .i64 a0_0) := (blk_cell BK79001.out 0).trans rfl; have hcz14_1 : w13.cell? ⟨gb79001, 1, none⟩ = some (.int .i64 a0_1) := (blk_cell BK79001.out 1).trans rfl; have hcz14_2 : w13.cell? ⟨gb79001, 2, none⟩ = some (.int .i64 a0_2) := (blk_cell BK79001.out 2).trans rfl; have hcz14_3 : w13.cell? ⟨gb79001, 3, none⟩ = some (.int .i64 a0_3) := (blk_cell BK79001.out 3).trans rfl; have hcz14_4 : w13.cell? ⟨gb79001, 4, none⟩ = some (.int .i64 a0_4) := (blk_cell BK79001.out 4).trans rfl; have hcz14_5 : w13.cell? ⟨gb79001, 5, none⟩ = some (.slice A0_5 l0_5.length c0_5) := (blk_cell BK79001.out 5).trans rfl; have hfz14_0 := blk_frozen BK79001.out 0; have hfz14_1 := blk_frozen BK79001.out 1; have hfz14_2 := blk_frozen BK79001.out 2; have hfz14_3 := blk_frozen BK79001.out 3; have hfz14_4 := blk_frozen BK79001.out 4; have hfz14_5 := blk_frozen BK79001.out 5; have hcz15_0 : w13.cell? ⟨gb79002, 0, none⟩ = some (.int .i64 a1_0) := (blk_cell BK79002.out 0).trans rfl; have hcz15_1 : w13.cell? ⟨gb79002, 1, none⟩ = some (.int .i64 a1_1) := (blk_cell BK79002.out 1).trans rfl; have hcz15_2 : w13.cell? ⟨gb79002, 2, none⟩ = some (.int .i64 a1_2) := (blk_cell BK79002.out 2).trans rfl; have hcz15_3 : w13.cell? ⟨gb79002, 3, none⟩ = some (.int .i64 a1_3) := (blk_cell BK79002.out 3).trans rfl; have hcz15_4 : w13.cell? ⟨gb79002, 4, none⟩ = some (.int .i64 a1_4) := (blk_cell BK79002.out 4).trans rfl; have hcz15_5 : w13.cell? ⟨gb79002, 5, none⟩ = some (.slice A1_5 l1_5.length c1_5) := (blk_cell BK79002.out 5).trans rfl; have hfz15_0 := blk_frozen BK79002.out 0; have hfz15_1 := blk_frozen BK79002.out 1; have hfz15_2 := blk_frozen BK79002.out 2; have hfz15_3 := blk_frozen BK79002.out 3; have hfz15_4 := blk_frozen BK79002.out 4; have hfz15_5 := blk_frozen BK79002.out 5) | ((with_reducible refine gate_callee (f := 95) rfl ?_); refine goesL_ (some 20) rfl rfl Try.func95 (by kernel_rfl) rfl #[.slice A0_5 l0_5.length c0_5, .slice A1_5 l1_5.length c1_5] rfl (by (try simp only [List.map_toArray, List.map_cons, List.map_nil]); first | done | rfl | (simp only [List.length_drop, List.length_take]; rfl)) ?_; (with_reducible refine (laws_eqIntS.calls k _ _ l0_5 _ _ l1_5 true _ ?side1 ?side2 ?side3 ?side4 A6.out).mono ?_); (case side1 => repeat (first | exact (Kd.C_below HR0_5.out HB.out) | (with_reducible refine Kd.C_alloc ?_ _) | (with_reducible refine Kd.C_drewN ?_ _) | (with_reducible refine Kd.C_drew ?_))); (case side2 => exact HC0_5.out); (case side3 => repeat (first | exact (Kd.C_below HR1_5.out HB.out) | (with_reducible refine Kd.C_alloc ?_ _) | (with_reducible refine Kd.C_drewN ?_ _) | (with_reducible refine Kd.C_drew ?_))); (case side4 => exact HC1_5.out); rintro e w' ⟨rfl, ⟨nd, rfl⟩⟩; refine ⟨_, rfl, ?_⟩))
        go_ret
        exact ⟨by first | rfl | (simp [errW_none, errW_some] <;> rfl) | (simp [*, errW_none, errW_some] <;> rfl), by repeat (first | (with_reducible first | exact HB.out | apply below_alloc | apply pw_below_drewN | apply below_drew1 | refine below_set ?_ GE79001.out | refine below_set ?_ GE79002.out) | exact HB.out)⟩
      · replace c7 := Bool.eq_false_iff.mpr c7
        subst c7
        have H1 : (some false) = some r := by rw [if_neg (show ¬ (false = true) by decide)] at H; exact H
        clear H
        have H := H1
        clear H1
        obtain rfl := Option.some.inj H
        go_enter Try.func78, Try.ntmps78
        go_wp2_with (first | ((with_reducible refine gate_dst (N := 2) rfl ?_); refine box_event ?hg (N := 2) ?hd (cs := #[.int .i64 a0_0, .int .i64 a0_1, .int .i64 a0_2, .int .i64 a0_3, .int .i64 a0_4, .slice A0_5 l0_5.length c0_5]) (t := 59) ?hr ?_; (case hd => rfl); (case hg => rfl); (case hr => first | (go_simp; done) | (go_simp; rfl)); intro gb79001 hg w16 hbox hb; have n0_ := Aside0.mk (below_step (by repeat (first | (with_reducible first | exact HB.out | apply below_alloc | apply pw_below_drewN | apply below_drew1) | exact HB.out)) hb); have n1_ := Aside0.mk (hbox); have n2_ := Aside0.mk ((by rw [hg]; exact (below_size (by repeat (first | (with_reducible first | exact HB.out | apply below_alloc | apply pw_below_drewN | apply below_drew1) | exact HB.out))) : w.heap.size ≤ gb79001)); have n3_ := Aside0.mk ((by rw [hg]; exact (below_size (by repeat (first | (with_reducible first | exact HB.out | apply below_alloc | apply pw_below_drewN | apply below_drew1) | exact HB.out))) : w.heap.size ≤ gb79001)); clear HB; have HB := n0_; have BK79001 := n1_; have GW79001 := n2_; have GE79001 := n3_; clear n0_ n1_ n2_ n3_; clear hb hbox hg) | ((with_reducible refine gate_dst (N := 3) rfl ?_); refine box_event ?hg (N := 3) ?hd (cs := #[.int .i64 a1_0, .int .i64 a1_1, .int .i64 a1_2, .int .i64 a1_3, .int .i64 a1_4, .slice A1_5 l1_5.length c1_5]) (t := 59) ?hr ?_; (case hd => rfl); (case hg => rfl); (case hr => first | (go_simp; done) | (go_simp; rfl)); intro gb79002 hg w17 hbox hb; have n0_ := Aside0.mk (blk_below (g := gb79001) (o := .cells #[.int .i64 a0_0, .int .i64 a0_1, .int .i64 a0_2, .int .i64 a0_3, .int .i64 a0_4, .slice A0_5 l0_5.length c0_5] 59 (0, 0)) (by (with_reducible repeat (first | refine blk_drewN ?_ _ | refine blk_drew ?_ | refine blk_alloc ?_ _)); exact BK79001.out) hb); have n1_ := Aside0.mk (below_step (by repeat (first | (with_reducible first | exact HB.out | apply below_alloc | apply pw_below_drewN | apply below_drew1 | refine below_set ?_ GE79001.out) | exact HB.out)) hb); have n2_ := Aside0.mk (hbox); have n3_ := Aside0.mk ((by rw [hg]; exact (below_size (by repeat (first | (with_reducible first | exact HB.out | apply below_alloc | apply pw_below_drewN | apply below_drew1 | refine below_set ?_ GE79001.out) | exact HB.out))) : w.heap.size ≤ gb79002)); have n4_ := Aside0.mk ((by rw [hg]; exact (below_size (by repeat (first | (with_reducible first | exact HB.out | apply below_alloc | apply pw_below_drewN | apply below_drew1 | refine below_set ?_ GE79001.out) | exact HB.out))) : w.heap.size ≤ gb79002)); have n5_ := Aside0.mk ((by rw [hg]; exact Nat.ne_of_lt (blk_lt (g := gb79001) (o := .cells #[.int .i64 a0_0, .int .i64 a0_1, .int .i64 a0_2, .int .i64 a0_3, .int .i64 a0_4, .slice A0_5 l0_5.length c0_5] 59 (0, 0)) (by (with_reducible repeat (first | refine blk_drewN ?_ _ | refine blk_drew ?_ | refine blk_alloc ?_ _)); exact BK79001.out)) : gb79001 ≠ gb79002)); have n6_ := Aside0.mk ((by rw [hg]; exact Nat.ne_of_gt (blk_lt (g := gb79001) (o := .cells #[.int .i64 a0_0, .int .i64 a0_1, .int .i64 a0_2, .int .i64 a0_3, .int .i64 a0_4, .slice A0_5 l0_5.length c0_5] 59 (0, 0)) (by (with_reducible repeat (first | refine blk_drewN ?_ _ | refine blk_drew ?_ | refine blk_alloc ?_ _)); exact BK79001.out)) : gb79002 ≠ gb79001)); clear BK79001; clear HB; have BK79001 := n0_; have HB := n1_; have BK79002 := n2_; have GW79002 := n3_; have GE79002 := n4_; have NB79001_79002 := n5_; have NB79002_79001 := n6_; clear n0_ n1_ n2_ n3_ n4_ n5_ n6_; clear hb hbox hg; have hnb18 := NB79001_79002.out; have hnc18 := NB79002_79001.out; have hcz19_0 : w17.cell? ⟨gb79001, 0, none⟩ = some (.int .i64 a0_0) := (blk_cell BK79001.out 0).trans rfl; have hcz19_1 : w17.cell? ⟨gb79001, 1, none⟩ = some (.int .i64 a0_1) := (blk_cell BK79001.out 1).trans rfl; have hcz19_2 : w17.cell? ⟨gb79001, 2, none⟩ = some (.int .i64 a0_2) := (blk_cell BK79001.out 2).trans rfl; have hcz19_3 : w17.cell? ⟨gb79001, 3, none⟩ = some (.int .i64 a0_3) := (blk_cell BK79001.out 3).trans rfl; have hcz19_4 : w17.cell? ⟨gb79001, 4, none⟩ = some (.int .i64 a0_4) := (blk_cell BK79001.out 4).trans rfl; have hcz19_5 : w17.cell? ⟨gb79001, 5, none⟩ = some (.slice A0_5 l0_5.length c0_5) := (blk_cell BK79001.out 5).trans rfl; have hfz19_0 := blk_frozen BK79001.out 0; have hfz19_1 := blk_frozen BK79001.out 1; have hfz19_2 := blk_frozen BK79001.out 2; have hfz19_3 := blk_frozen BK79001.out 3; have hfz19_4 := blk_frozen BK79001.out 4; have hfz19_5 := blk_frozen BK79001.out 5; have hcz20_0 : w17.cell? ⟨gb79002, 0, none⟩ = some (.int .i64 a1_0) := (blk_cell BK79002.out 0).trans rfl; have hcz20_1 : w17.cell? ⟨gb79002, 1, none⟩ = some (.int .i64 a1_1) := (blk_cell BK79002.out 1).trans rfl; have hcz20_2 : w17.cell? ⟨gb79002, 2, none⟩ = some (.int .i64 a1_2) := (blk_cell BK79002.out 2).trans rfl; have hcz20_3 : w17.cell? ⟨gb79002, 3, none⟩ = some (.int .i64 a1_3) := (blk_cell BK79002.out 3).trans rfl; have hcz20_4 : w17.cell? ⟨gb79002, 4, none⟩ = some (.int .i64 a1_4) := (blk_cell BK79002.out 4).trans rfl; have hcz20_5 : w17.cell? ⟨gb79002, 5, none⟩ = some (.slice A1_5 l1_5.length c1_5) := (blk_cell BK79002.out 5).trans rfl; have hfz20_0 := blk_frozen BK79002.out 0; have hfz20_1 := blk_frozen BK79002.out 1; have hfz20_2 := blk_frozen BK79002.out 2; have hfz20_3 := blk_frozen BK79002.out 3; have hfz20_4 := blk_frozen BK79002.out 4; have hfz20_5 := blk_frozen BK79002.out 5) | ((with_reducible refine gate_callee (f := 54) rfl ?_); refine goesL_ (some 14) rfl rfl Try.func54 (by kernel_rfl) rfl #[.agg #[.int .i64 a0_1, .int .i64 a0_2, .int .i64 a0_3, .int .i64 a0_4], .agg #[.int .i64 a1_1, .int .i64 a1_2, .int .i64 a1_3, .int .i64 a1_4]] rfl (by (try simp only [List.map_toArray, List.map_cons, List.map_nil]); first | done | rfl | (simp only [List.length_drop, List.length_take]; rfl)) ?_; (with_reducible refine (laws_eqBox.calls a0_1 a0_2 a0_3 a0_4 a1_1 a1_2 a1_3 a1_4 true _ A4.out).mono ?_); rintro e w21 ⟨rfl, hb⟩; refine ⟨_, rfl, ?_⟩; have n0_ := Aside0.mk (blk_below (g := gb79001) (o := .cells #[.int .i64 a0_0, .int .i64 a0_1, .int .i64 a0_2, .int .i64 a0_3, .int .i64 a0_4, .slice A0_5 l0_5.length c0_5] 59 (0, 0)) (by (with_reducible repeat (first | refine blk_drewN ?_ _ | refine blk_drew ?_ | refine blk_alloc ?_ _)); exact BK79001.out) hb); have n1_ := Aside0.mk (blk_below (g := gb79002) (o := .cells #[.int .i64 a1_0, .int .i64 a1_1, .int .i64 a1_2, .int .i64 a1_3, .int .i64 a1_4, .slice A1_5 l1_5.length c1_5] 59 (0, 0)) (by (with_reducible repeat (first | refine blk_drewN ?_ _ | refine blk_drew ?_ | refine blk_alloc ?_ _)); exact BK79002.out) hb); have n2_ := Aside0.mk (below_step (by repeat (first | (with_reducible first | exact HB.out | apply below_alloc | apply pw_below_drewN | apply below_drew1 | refine below_set ?_ GE79001.out | refine below_set ?_ GE79002.out) | exact HB.out)) hb); clear BK79001; clear BK79002; clear HB; have BK79001 := n0_; have BK79002 := n1_; have HB := n2_; clear n0_ n1_ n2_; (try clear hb); (try clear hb2); (try clear hk); (try clear hi); have hcz22_0 : w21.cell? ⟨gb79001, 0, none⟩ = some (.int .i64 a0_0) := (blk_cell BK79001.out 0).trans rfl; have hcz22_1 : w21.cell? ⟨gb79001, 1, none⟩ = some (.int .i64 a0_1) := (blk_cell BK79001.out 1).trans rfl; have hcz22_2 : w21.cell? ⟨gb79001, 2, none⟩ = some (.int .i64 a0_2) := (blk_cell BK79001.out 2).trans rfl; have hcz22_3 : w21.cell? ⟨gb79001, 3, none⟩ = some (.int .i64 a0_3) := (blk_cell BK79001.out 3).trans rfl; have hcz22_4 : w21.cell? ⟨gb79001, 4, none⟩ = some (.int .i64 a0_4) := (blk_cell BK79001.out 4).trans rfl; have hcz22_5 : w21.cell? ⟨gb79001, 5, none⟩ = some (.slice A0_5 l0_5.length c0_5) := (blk_cell BK79001.out 5).trans rfl; have hfz22_0 := blk_frozen BK79001.out 0; have hfz22_1 := blk_frozen BK79001.out 1; have hfz22_2 := blk_frozen BK79001.out 2; have hfz22_3 := blk_frozen BK79001.out 3; have hfz22_4 := blk_frozen BK79001.out 4; have hfz22_5 := blk_frozen BK79001.out 5; have hcz23_0 : w21.cell? ⟨gb79002, 0, none⟩ = some (.int .i64 a1_0) := (blk_cell BK79002.out 0).trans rfl; have hcz23_1 : w21.cell? ⟨gb79002, 1, none⟩ = some (.int .i64 a1_1) := (blk_cell BK79002.out 1).trans rfl; have hcz23_2 : w21.cell? ⟨gb79002, 2, none⟩ = some (.int .i64 a1_2) := (blk_cell BK79002.out 2).trans rfl; have hcz23_3 : w21.cell? ⟨gb79002, 3, none⟩ = some (.int .i64 a1_3) := (blk_cell BK79002.out 3).trans rfl; have hcz23_4 : w21.cell? ⟨gb79002, 4, none⟩ = some (.int .i64 a1_4) := (blk_cell BK79002.out 4).trans rfl; have hcz23_5 : w21.cell? ⟨gb79002, 5, none⟩ = some (.slice A1_5 l1_5.length c1_5) := (blk_cell BK79002.out 5).trans rfl; have hfz23_0 := blk_frozen BK79002.out 0; have hfz23_1 := blk_frozen BK79002.out 1; have hfz23_2 := blk_frozen BK79002.out 2; have hfz23_3 := blk_frozen BK79002.out 3; have hfz23_4 := blk_frozen BK79002.out 4; have hfz23_5 := blk_frozen BK79002.out 5) | ((with_reducible refine gate_callee (f := 95) rfl ?_); refine goesL_ (some 20) rfl rfl Try.func95 (by kernel_rfl) rfl #[.slice A0_5 l0_5.length c0_5, .slice A1_5 l1_5.length c1_5] rfl (by (try simp only [List.map_toArray, List.map_cons, List.map_nil]); first | done | rfl | (simp only [List.length_drop, List.length_take]; rfl)) ?_; (with_reducible refine (laws_eqIntS.calls k _ _ l0_5 _ _ l1_5 false _ ?side1 ?side2 ?side3 ?side4 A6.out).mono ?_); (case side1 => repeat (first | exact (Kd.C_below HR0_5.out HB.out) | (with_reducible refine Kd.C_alloc ?_ _) | (with_reducible refine Kd.C_drewN ?_ _) | (with_reducible refine Kd.C_drew ?_))); (case side2 => exact HC0_5.out); (case side3 => repeat (first | exact (Kd.C_below HR1_5.out HB.out) | (with_reducible refine Kd.C_alloc ?_ _) | (with_reducible refine Kd.C_drewN ?_ _) | (with_reducible refine Kd.C_drew ?_))); (case side4 => exact HC1_5.out); rintro e w' ⟨rfl, ⟨nd, rfl⟩⟩; refine ⟨_, rfl, ?_⟩))
        go_ret
        exact ⟨by first | rfl | (simp [errW_none, errW_some] <;> rfl) | (simp [*, errW_none, errW_some] <;> rfl), by repeat (first | (with_reducible first | exact HB.out | apply below_alloc | apply pw_below_drewN | apply below_drew1 | refine below_set ?_ GE79001.out | refine below_set ?_ GE79002.out) | exact HB.out)⟩
    · replace c5 := Bool.eq_false_iff.mpr c5
      subst c5
      have H1 : (some false) = some r := by rw [if_neg (show ¬ (false = true) by decide)] at H; exact H
      clear H
      have H := H1
      clear H1
      obtain rfl := Option.some.inj H
      go_enter Try.func78, Try.ntmps78
      go_wp2_with (first | ((with_reducible refine gate_dst (N := 2) rfl ?_); refine box_event ?hg (N := 2) ?hd (cs := #[.int .i64 a0_0, .int .i64 a0_1, .int .i64 a0_2, .int .i64 a0_3, .int .i64 a0_4, .slice A0_5 l0_5.length c0_5]) (t := 59) ?hr ?_; (case hd => rfl); (case hg => rfl); (case hr => first | (go_simp; done) | (go_simp; rfl)); intro gb79001 hg w24 hbox hb; have n0_ := Aside0.mk (below_step (by repeat (first | (with_reducible first | exact HB.out | apply below_alloc | apply pw_below_drewN | apply below_drew1) | exact HB.out)) hb); have n1_ := Aside0.mk (hbox); have n2_ := Aside0.mk ((by rw [hg]; exact (below_size (by repeat (first | (with_reducible first | exact HB.out | apply below_alloc | apply pw_below_drewN | apply below_drew1) | exact HB.out))) : w.heap.size ≤ gb79001)); have n3_ := Aside0.mk ((by rw [hg]; exact (below_size (by repeat (first | (with_reducible first | exact HB.out | apply below_alloc | apply pw_below_drewN | apply below_drew1) | exact HB.out))) : w.heap.size ≤ gb79001)); clear HB; have HB := n0_; have BK79001 := n1_; have GW79001 := n2_; have GE79001 := n3_; clear n0_ n1_ n2_ n3_; clear hb hbox hg) | ((with_reducible refine gate_dst (N := 3) rfl ?_); refine box_event ?hg (N := 3) ?hd (cs := #[.int .i64 a1_0, .int .i64 a1_1, .int .i64 a1_2, .int .i64 a1_3, .int .i64 a1_4, .slice A1_5 l1_5.length c1_5]) (t := 59) ?hr ?_; (case hd => rfl); (case hg => rfl); (case hr => first | (go_simp; done) | (go_simp; rfl)); intro gb79002 hg w25 hbox hb; have n0_ := Aside0.mk (blk_below (g := gb79001) (o := .cells #[.int .i64 a0_0, .int .i64 a0_1, .int .i64 a0_2, .int .i64 a0_3, .int .i64 a0_4, .slice A0_5 l0_5.length c0_5] 59 (0, 0)) (by (with_reducible repeat (first | refine blk_drewN ?_ _ | refine blk_drew ?_ | refine blk_alloc ?_ _)); exact BK79001.out) hb); have n1_ := Aside0.mk (below_step (by repeat (first | (with_reducible first | exact HB.out | apply below_alloc | apply pw_below_drewN | apply below_drew1 | refine below_set ?_ GE79001.out) | exact HB.out)) hb); have n2_ := Aside0.mk (hbox); have n3_ := Aside0.mk ((by rw [hg]; exact (below_size (by repeat (first | (with_reducible first | exact HB.out | apply below_alloc | apply pw_below_drewN | apply below_drew1 | refine below_set ?_ GE79001.out) | exact HB.out))) : w.heap.size ≤ gb79002)); have n4_ := Aside0.mk ((by rw [hg]; exact (below_size (by repeat (first | (with_reducible first | exact HB.out | apply below_alloc | apply pw_below_drewN | apply below_drew1 | refine below_set ?_ GE79001.out) | exact HB.out))) : w.heap.size ≤ gb79002)); have n5_ := Aside0.mk ((by rw [hg]; exact Nat.ne_of_lt (blk_lt (g := gb79001) (o := .cells #[.int .i64 a0_0, .int .i64 a0_1, .int .i64 a0_2, .int .i64 a0_3, .int .i64 a0_4, .slice A0_5 l0_5.length c0_5] 59 (0, 0)) (by (with_reducible repeat (first | refine blk_drewN ?_ _ | refine blk_drew ?_ | refine blk_alloc ?_ _)); exact BK79001.out)) : gb79001 ≠ gb79002)); have n6_ := Aside0.mk ((by rw [hg]; exact Nat.ne_of_gt (blk_lt (g := gb79001) (o := .cells #[.int .i64 a0_0, .int .i64 a0_1, .int .i64 a0_2, .int .i64 a0_3, .int .i64 a0_4, .slice A0_5 l0_5.length c0_5] 59 (0, 0)) (by (with_reducible repeat (first | refine blk_drewN ?_ _ | refine blk_drew ?_ | refine blk_alloc ?_ _)); exact BK79001.out)) : gb79002 ≠ gb79001)); clear BK79001; clear HB; have BK79001 := n0_; have HB := n1_; have BK79002 := n2_; have GW79002 := n3_; have GE79002 := n4_; have NB79001_79002 := n5_; have NB79002_79001 := n6_; clear n0_ n1_ n2_ n3_ n4_ n5_ n6_; clear hb hbox hg; have hnb26 := NB79001_79002.out; have hnc26 := NB79002_79001.out; have hcz27_0 : w25.cell? ⟨gb79001, 0, none⟩ = some (.int .i64 a0_0) := (blk_cell BK79001.out 0).trans rfl; have hcz27_1 : w25.cell? ⟨gb79001, 1, none⟩ = some (.int .i64 a0_1) := (blk_cell BK79001.out 1).trans rfl; have hcz27_2 : w25.cell? ⟨gb79001, 2, none⟩ = some (.int .i64 a0_2) := (blk_cell BK79001.out 2).trans rfl; have hcz27_3 : w25.cell? ⟨gb79001, 3, none⟩ = some (.int .i64 a0_3) := (blk_cell BK79001.out 3).trans rfl; have hcz27_4 : w25.cell? ⟨gb79001, 4, none⟩ = some (.int .i64 a0_4) := (blk_cell BK79001.out 4).trans rfl; have hcz27_5 : w25.cell? ⟨gb79001, 5, none⟩ = some (.slice A0_5 l0_5.length c0_5) := (blk_cell BK79001.out 5).trans rfl; have hfz27_0 := blk_frozen BK79001.out 0; have hfz27_1 := blk_frozen BK79001.out 1; have hfz27_2 := blk_frozen BK79001.out 2; have hfz27_3 := blk_frozen BK79001.out 3; have hfz27_4 := blk_frozen BK79001.out 4; have hfz27_5 := blk_frozen BK79001.out 5; have hcz28_0 : w25.cell? ⟨gb79002, 0, none⟩ = some (.int .i64 a1_0) := (blk_cell BK79002.out 0).trans rfl; have hcz28_1 : w25.cell? ⟨gb79002, 1, none⟩ = some (.int .i64 a1_1) := (blk_cell BK79002.out 1).trans rfl; have hcz28_2 : w25.cell? ⟨gb79002, 2, none⟩ = some (.int .i64 a1_2) := (blk_cell BK79002.out 2).trans rfl; have hcz28_3 : w25.cell? ⟨gb79002, 3, none⟩ = some (.int .i64 a1_3) := (blk_cell BK79002.out 3).trans rfl; have hcz28_4 : w25.cell? ⟨gb79002, 4, none⟩ = some (.int .i64 a1_4) := (blk_cell BK79002.out 4).trans rfl; have hcz28_5 : w25.cell? ⟨gb79002, 5, none⟩ = some (.slice A1_5 l1_5.length c1_5) := (blk_cell BK79002.out 5).trans rfl; have hfz28_0 := blk_frozen BK79002.out 0; have hfz28_1 := blk_frozen BK79002.out 1; have hfz28_2 := blk_frozen BK79002.out 2; have hfz28_3 := blk_frozen BK79002.out 3; have hfz28_4 := blk_frozen BK79002.out 4; have hfz28_5 := blk_frozen BK79002.out 5) | ((with_reducible refine gate_callee (f := 54) rfl ?_); refine goesL_ (some 14) rfl rfl Try.func54 (by kernel_rfl) rfl #[.agg #[.int .i64 a0_1, .int .i64 a0_2, .int .i64 a0_3, .int .i64 a0_4], .agg #[.int .i64 a1_1, .int .i64 a1_2, .int .i64 a1_3, .int .i64 a1_4]] rfl (by (try simp only [List.map_toArray, List.map_cons, List.map_nil]); first | done | rfl | (simp only [List.length_drop, List.length_take]; rfl)) ?_; (with_reducible refine (laws_eqBox.calls a0_1 a0_2 a0_3 a0_4 a1_1 a1_2 a1_3 a1_4 false _ A4.out).mono ?_); rintro e w29 ⟨rfl, hb⟩; refine ⟨_, rfl, ?_⟩; have n0_ := Aside0.mk (blk_below (g := gb79001) (o := .cells #[.int .i64 a0_0, .int .i64 a0_1, .int .i64 a0_2, .int .i64 a0_3, .int .i64 a0_4, .slice A0_5 l0_5.length c0_5] 59 (0, 0)) (by (with_reducible repeat (first | refine blk_drewN ?_ _ | refine blk_drew ?_ | refine blk_alloc ?_ _)); exact BK79001.out) hb); have n1_ := Aside0.mk (blk_below (g := gb79002) (o := .cells #[.int .i64 a1_0, .int .i64 a1_1, .int .i64 a1_2, .int .i64 a1_3, .int .i64 a1_4, .slice A1_5 l1_5.length c1_5] 59 (0, 0)) (by (with_reducible repeat (first | refine blk_drewN ?_ _ | refine blk_drew ?_ | refine blk_alloc ?_ _)); exact BK79002.out) hb); have n2_ := Aside0.mk (below_step (by repeat (first | (with_reducible first | exact HB.out | apply below_alloc | apply pw_below_drewN | apply below_drew1 | refine below_set ?_ GE79001.out | refine below_set ?_ GE79002.out) | exact HB.out)) hb); clear BK79001; clear BK79002; clear HB; have BK79001 := n0_; have BK79002 := n1_; have HB := n2_; clear n0_ n1_ n2_; (try clear hb); (try clear hb2); (try clear hk); (try clear hi)))
      go_ret
      exact ⟨by first | rfl | (simp [errW_none, errW_some] <;> rfl) | (simp [*, errW_none, errW_some] <;> rfl), by repeat (first | (with_reducible first | exact HB.out | apply below_alloc | apply pw_below_drewN | apply below_drew1 | refine below_set ?_ GE79001.out | refine below_set ?_ GE79002.out) | exact HB.out)⟩
  · rw [if_neg c3] at H
    have c3b0 : (a0_0 == a1_0) = false := beq_eq_false_iff_ne.mpr c3
    have c3b1 : (a0_0 != a1_0) = true := bne_iff_ne.mpr c3
    obtain rfl := Option.some.inj H
    go_enter Try.func78, Try.ntmps78
    go_wp2_with (first | ((with_reducible refine gate_dst (N := 2) rfl ?_); refine box_event ?hg (N := 2) ?hd (cs := #[.int .i64 a0_0, .int .i64 a0_1, .int .i64 a0_2, .int .i64 a0_3, .int .i64 a0_4, .slice A0_5 l0_5.length c0_5]) (t := 59) ?hr ?_; (case hd => rfl); (case hg => rfl); (case hr => first | (go_simp; done) | (go_simp; rfl)); intro gb79001 hg w30 hbox hb; have n0_ := Aside0.mk (below_step (by repeat (first | (with_reducible first | exact HB.out | apply below_alloc | apply pw_below_drewN | apply below_drew1) | exact HB.out)) hb); have n1_ := Aside0.mk (hbox); have n2_ := Aside0.mk ((by rw [hg]; exact (below_size (by repeat (first | (with_reducible first | exact HB.out | apply below_alloc | apply pw_below_drewN | apply below_drew1) | exact HB.out))) : w.heap.size ≤ gb79001)); have n3_ := Aside0.mk ((by rw [hg]; exact (below_size (by repeat (first | (with_reducible first | exact HB.out | apply below_alloc | apply pw_below_drewN | apply below_drew1) | exact HB.out))) : w.heap.size ≤ gb79001)); clear HB; have HB := n0_; have BK79001 := n1_; have GW79001 := n2_; have GE79001 := n3_; clear n0_ n1_ n2_ n3_; clear hb hbox hg) | ((with_reducible refine gate_dst (N := 3) rfl ?_); refine box_event ?hg (N := 3) ?hd (cs := #[.int .i64 a1_0, .int .i64 a1_1, .int .i64 a1_2, .int .i64 a1_3, .int .i64 a1_4, .slice A1_5 l1_5.length c1_5]) (t := 59) ?hr ?_; (case hd => rfl); (case hg => rfl); (case hr => first | (go_simp; done) | (go_simp; rfl)); intro gb79002 hg w31 hbox hb; have n0_ := Aside0.mk (blk_below (g := gb79001) (o := .cells #[.int .i64 a0_0, .int .i64 a0_1, .int .i64 a0_2, .int .i64 a0_3, .int .i64 a0_4, .slice A0_5 l0_5.length c0_5] 59 (0, 0)) (by (with_reducible repeat (first | refine blk_drewN ?_ _ | refine blk_drew ?_ | refine blk_alloc ?_ _)); exact BK79001.out) hb); have n1_ := Aside0.mk (below_step (by repeat (first | (with_reducible first | exact HB.out | apply below_alloc | apply pw_below_drewN | apply below_drew1 | refine below_set ?_ GE79001.out) | exact HB.out)) hb); have n2_ := Aside0.mk (hbox); have n3_ := Aside0.mk ((by rw [hg]; exact (below_size (by repeat (first | (with_reducible first | exact HB.out | apply below_alloc | apply pw_below_drewN | apply below_drew1 | refine below_set ?_ GE79001.out) | exact HB.out))) : w.heap.size ≤ gb79002)); have n4_ := Aside0.mk ((by rw [hg]; exact (below_size (by repeat (first | (with_reducible first | exact HB.out | apply below_alloc | apply pw_below_drewN | apply below_drew1 | refine below_set ?_ GE79001.out) | exact HB.out))) : w.heap.size ≤ gb79002)); have n5_ := Aside0.mk ((by rw [hg]; exact Nat.ne_of_lt (blk_lt (g := gb79001) (o := .cells #[.int .i64 a0_0, .int .i64 a0_1, .int .i64 a0_2, .int .i64 a0_3, .int .i64 a0_4, .slice A0_5 l0_5.length c0_5] 59 (0, 0)) (by (with_reducible repeat (first | refine blk_drewN ?_ _ | refine blk_drew ?_ | refine blk_alloc ?_ _)); exact BK79001.out)) : gb79001 ≠ gb79002)); have n6_ := Aside0.mk ((by rw [hg]; exact Nat.ne_of_gt (blk_lt (g := gb79001) (o := .cells #[.int .i64 a0_0, .int .i64 a0_1, .int .i64 a0_2, .int .i64 a0_3, .int .i64 a0_4, .slice A0_5 l0_5.length c0_5] 59 (0, 0)) (by (with_reducible repeat (first | refine blk_drewN ?_ _ | refine blk_drew ?_ | refine blk_alloc ?_ _)); exact BK79001.out)) : gb79002 ≠ gb79001)); clear BK79001; clear HB; have BK79001 := n0_; have HB := n1_; have BK79002 := n2_; have GW79002 := n3_; have GE79002 := n4_; have NB79001_79002 := n5_; have NB79002_79001 := n6_; clear n0_ n1_ n2_ n3_ n4_ n5_ n6_; clear hb hbox hg; have hnb32 := NB79001_79002.out; have hnc32 := NB79002_79001.out; have hcz33_0 : w31.cell? ⟨gb79001, 0, none⟩ = some (.int .i64 a0_0) := (blk_cell BK79001.out 0).trans rfl; have hcz33_1 : w31.cell? ⟨gb79001, 1, none⟩ = some (.int .i64 a0_1) := (blk_cell BK79001.out 1).trans rfl; have hcz33_2 : w31.cell? ⟨gb79001, 2, none⟩ = some (.int .i64 a0_2) := (blk_cell BK79001.out 2).trans rfl; have hcz33_3 : w31.cell? ⟨gb79001, 3, none⟩ = some (.int .i64 a0_3) := (blk_cell BK79001.out 3).trans rfl; have hcz33_4 : w31.cell? ⟨gb79001, 4, none⟩ = some (.int .i64 a0_4) := (blk_cell BK79001.out 4).trans rfl; have hcz33_5 : w31.cell? ⟨gb79001, 5, none⟩ = some (.slice A0_5 l0_5.length c0_5) := (blk_cell BK79001.out 5).trans rfl; have hfz33_0 := blk_frozen BK79001.out 0; have hfz33_1 := blk_frozen BK79001.out 1; have hfz33_2 := blk_frozen BK79001.out 2; have hfz33_3 := blk_frozen BK79001.out 3; have hfz33_4 := blk_frozen BK79001.out 4; have hfz33_5 := blk_frozen BK79001.out 5; have hcz34_0 : w31.cell? ⟨gb79002, 0, none⟩ = some (.int .i64 a1_0) := (blk_cell BK79002.out 0).trans rfl; have hcz34_1 : w31.cell? ⟨gb79002, 1, none⟩ = some (.int .i64 a1_1) := (blk_cell BK79002.out 1).trans rfl; have hcz34_2 : w31.cell? ⟨gb79002, 2, none⟩ = some (.int .i64 a1_2) := (blk_cell BK79002.out 2).trans rfl; have hcz34_3 : w31.cell? ⟨gb79002, 3, none⟩ = some (.int .i64 a1_3) := (blk_cell BK79002.out 3).trans rfl; have hcz34_4 : w31.cell? ⟨gb79002, 4, none⟩ = some (.int .i64 a1_4) := (blk_cell BK79002.out 4).trans rfl; have hcz34_5 : w31.cell? ⟨gb79002, 5, none⟩ = some (.slice A1_5 l1_5.length c1_5) := (blk_cell BK79002.out 5).trans rfl; have hfz34_0 := blk_frozen BK79002.out 0; have hfz34_1 := blk_frozen BK79002.out 1; have hfz34_2 := blk_frozen BK79002.out 2; have hfz34_3 := blk_frozen BK79002.out 3; have hfz34_4 := blk_frozen BK79002.out 4; have hfz34_5 := blk_frozen BK79002.out 5))
    go_ret
    exact ⟨by first | rfl | (simp [errW_none, errW_some] <;> rfl) | (simp [*, errW_none, errW_some] <;> rfl), by repeat (first | (with_reducible first | exact HB.out | apply below_alloc | apply pw_below_drewN | apply below_drew1 | refine below_set ?_ GE79001.out | refine below_set ?_ GE79002.out) | exact HB.out)⟩


def laws_eqStepS.l0 : Nat → List (S59) → List (S59) → Int → Option (Bool)
  | 0, _, _, _ => none
  | k + 1, x0, x1, x5 => if x5 < (x0.length : Int) then (if 0 ≤ x5 then (if x5 < (x1.length : Int) then ((laws_eqStep.f k ((rd_T59 x0 x5).f0) ((rd_T59 x0 x5).f1.f0) ((rd_T59 x0 x5).f1.f1) ((rd_T59 x0 x5).f1.f2) ((rd_T59 x0 x5).f1.f3) ((rd_T59 x0 x5).f2) ((rd_T59 x1 x5).f0) ((rd_T59 x1 x5).f1.f0) ((rd_T59 x1 x5).f1.f1) ((rd_T59 x1 x5).f1.f2) ((rd_T59 x1 x5).f1.f3) ((rd_T59 x1 x5).f2)).bind fun t44003 => (if t44003 = true then (laws_eqStepS.l0 k x0 x1 (wrap64 (x5 + 1))) else (some false))) else (none)) else (none)) else (some true)
def laws_eqStepS.f (k : Nat) (l0 : List (S59)) (l1 : List (S59)) : Option (Bool) := if (l0.length : Int) = (l1.length : Int) then (laws_eqStepS.l0 k l0 l1 0) else (some false)
def laws_eqStepS.T6 : Bool × List (List Nat × List Nat) := (true, [([], []), ([], []), ([0, 1], [0, 1]), ([2], [2]), ([], []), ([], []), ([4, 5], [4, 5]), ([6], [6]), ([3, 7], [3, 7]), ([8], [8])])
def laws_eqStepS.B6 : List Nat := [0, 0, 3, 7, 0, 0, 48, 112, 255, 511]
theorem laws_eqStepS.tab6 : rtab .any (opsOf Try.f43 6) = laws_eqStepS.T6 := by kernel_rfl
theorem laws_eqStepS.bits6 : waitsOk laws_eqStepS.T6.2 laws_eqStepS.B6 = true := by kernel_rfl
set_option maxHeartbeats 8000000 in
set_option maxRecDepth 100000 in
theorem laws_eqStepS.calls (k : Nat) (A0 : Option Addr) (c0 : Nat) (l0 : List (S59)) (A1 : Option Addr) (c1 : Nat) (l1 : List (S59)) (r : Bool) (w : World) (hr0 : Kd.C k59 w A0 l0.length l0) (hc0 : l0.length ≤ c0) (hr1 : Kd.C k59 w A1 l1.length l1) (hc1 : l1.length ≤ c1) (h : laws_eqStepS.f k l0 l1 = some r) :
    Calls Try.prog 43 #[.slice A0 l0.length c0, .slice A1 l1.length c1] w fun e w' => e = .returned (.bool r) ∧ Below w.heap.size w w' := by
  have hu59 := Try.underlying59
  have HR0 := Aside0.mk hr0
  have HC0 := Aside0.mk hc0
  clear hr0 hc0
  have HR1 := Aside0.mk hr1
  have HC1 := Aside0.mk hc1
  clear hr1 hc1
  have HB := Aside0.mk (Below.refl w.heap.size w)
  have H : (if (l0.length : Int) = (l1.length : Int) then (laws_eqStepS.l0 k l0 l1 0) else (some false)) = some r := h
  clear h
  by_cases c3 : (l0.length : Int) = (l1.length : Int)
  · rw [if_pos c3] at H
    have c3b0 : ((l0.length : Int) == (l1.length : Int)) = true := beq_iff_eq.mpr c3
    have c3b1 : ((l0.length : Int) != (l1.length : Int)) = false := bne_eq_false_iff_eq.mpr c3
    have c3b2 : (l0.length == l1.length) = true := by first | simpa using c3 | (simp at c3 ⊢; omega)
    clear c3
    have H' := Aside0.mk H
    clear H
    go_enter Try.func43, Try.ntmps43
    go_wp2
    go_loopg [5] k (fun kq v5 w' => ∃ (x5_1 : Int), v5 = .int .i64 x5_1 ∧ Aside0 (laws_eqStepS.l0 kq l0 l1 x5_1 = some r) ∧ Aside0 (kq ≤ k) ∧ Aside0 (Below w.heap.size w w'))
    case atStart => exact ⟨(0), (by first | rfl | (simp; done) | (simp [*]; done)), H', ⟨Nat.le_refl _⟩, ⟨by repeat (first | (with_reducible first | exact HB.out | apply below_alloc | apply pw_below_drewN | apply below_drew1) | exact HB.out)⟩⟩
    case round =>
      clear H'
      try clear c1
      try clear p2
      try clear c3
      try clear c3b0
      try clear c3b1
      try clear c3b2
      obtain ⟨x5_1, rfl, HA, HK1, HB⟩ := hrel
      cases gk with
      | zero => exact absurd HA.out (by simp [laws_eqStepS.l0])
      | succ k1 =>
        have H := HA.out
        clear HA
        simp only [laws_eqStepS.l0] at H
        by_cases c4 : x5_1 < (l0.length : Int)
        · rw [if_pos c4] at H
          have c4b0 : decide (x5_1 < (l0.length : Int)) = true := decide_eq_true c4
          clear c4
          by_cases c5 : 0 ≤ x5_1
          · rw [if_pos c5] at H
            have c5b0 : decide (0 ≤ x5_1) = true := decide_eq_true c5
            clear c5
            by_cases c6 : x5_1 < (l1.length : Int)
            · rw [if_pos c6] at H
              have c6b0 : decide (x5_1 < (l1.length : Int)) = true := decide_eq_true c6
              clear c6
              replace H := Option.bind_eq_some_iff.mp H
              obtain ⟨t44003, A70, H⟩ := H
              replace H : (if t44003 = true then (laws_eqStepS.l0 k1 l0 l1 (wrap64 (x5_1 + 1))) else (some false)) = some r := H
              have A7 := Aside0.mk A70
              clear A70
              by_cases c8 : t44003 = true
              · subst c8
                have H1 : (laws_eqStepS.l0 k1 l0 l1 (wrap64 (x5_1 + 1))) = some r := by rw [if_pos rfl] at H; exact H
                clear H
                have H := H1
                clear H1
                have H' := Aside0.mk H
                clear H
                try go_wp2
                have n0_ := Aside0.mk (below_drew1 HB.out)
                clear HB
                have HB := n0_
                clear n0_
                have p44001 : 0 ≤ (x5_1 : Int) := of_decide_eq_true (by first | (with_reducible assumption) | assumption)
                have q44001 : x5_1 < (l0.length : Int) := of_decide_eq_true (by first | (with_reducible assumption) | assumption)
                obtain ⟨ad44001, A44001_5, c44001_5, e44001, hx44001_0, hx44001_1, hx44001_2, hx44001_3, hx44001_4, hx44001_5, hl44001_5, hi44001_5⟩ := at_T59 HR0.out x5_1 p44001 q44001
                have hw44001_5 := hx44001_5
                have hw44001_4 := hx44001_4
                have hw44001_3 := hx44001_3
                have hw44001_2 := hx44001_2
                have hw44001_1 := hx44001_1
                have hw44001_0 := hx44001_0
                cases e44001
                replace hx44001_0 := (HB.out.cell (World.block_lt_of_cell? w _ hx44001_0)).trans hx44001_0
                replace hx44001_1 := (HB.out.cell (World.block_lt_of_cell? w _ hx44001_1)).trans hx44001_1
                replace hx44001_2 := (HB.out.cell (World.block_lt_of_cell? w _ hx44001_2)).trans hx44001_2
                replace hx44001_3 := (HB.out.cell (World.block_lt_of_cell? w _ hx44001_3)).trans hx44001_3
                replace hx44001_4 := (HB.out.cell (World.block_lt_of_cell? w _ hx44001_4)).trans hx44001_4
                replace hx44001_5 := (HB.out.cell (World.block_lt_of_cell? w _ hx44001_5)).trans hx44001_5
                have HR44001_5 := Aside0.mk hi44001_5
                have HC44001_5 := Aside0.mk hl44001_5
                clear hi44001_5 hl44001_5
                replace p44001 := eq_true p44001
                replace q44001 := eq_true q44001
                have p44002 : 0 ≤ (x5_1 : Int) := of_decide_eq_true (by first | (with_reducible assumption) | assumption)
                have q44002 : x5_1 < (l1.length : Int) := of_decide_eq_true (by first | (with_reducible assumption) | assumption)
                obtain ⟨ad44002, A44002_5, c44002_5, e44002, hx44002_0, hx44002_1, hx44002_2, hx44002_3, hx44002_4, hx44002_5, hl44002_5, hi44002_5⟩ := at_T59 HR1.out x5_1 p44002 q44002
                have hw44002_5 := hx44002_5
                have hw44002_4 := hx44002_4
                have hw44002_3 := hx44002_3
                have hw44002_2 := hx44002_2
                have hw44002_1 := hx44002_1
                have hw44002_0 := hx44002_0
                cases e44002
                replace hx44002_0 := (HB.out.cell (World.block_lt_of_cell? w _ hx44002_0)).trans hx44002_0
                replace hx44002_1 := (HB.out.cell (World.block_lt_of_cell? w _ hx44002_1)).trans hx44002_1
                replace hx44002_2 := (HB.out.cell (World.block_lt_of_cell? w _ hx44002_2)).trans hx44002_2
                replace hx44002_3 := (HB.out.cell (World.block_lt_of_cell? w _ hx44002_3)).trans hx44002_3
                replace hx44002_4 := (HB.out.cell (World.block_lt_of_cell? w _ hx44002_4)).trans hx44002_4
                replace hx44002_5 := (HB.out.cell (World.block_lt_of_cell? w _ hx44002_5)).trans hx44002_5
                have HR44002_5 := Aside0.mk hi44002_5
                have HC44002_5 := Aside0.mk hl44002_5
                clear hi44002_5 hl44002_5
                replace p44002 := eq_true p44002
                replace q44002 := eq_true q44002
                refine start_ (n := 10) (S := fun w' => w'.cell? (ad44001.add ((x5_1).toNat * 6)) = some (.int .i64 ((rd_T59 l0 x5_1).f0)) ∧ w'.cell? ⟨(ad44001.add ((x5_1).toNat * 6)).block, (ad44001.add ((x5_1).toNat * 6)).off + 1, none⟩ = some (.int .i64 ((rd_T59 l0 x5_1).f1.f0)) ∧ w'.cell? ⟨(ad44001.add ((x5_1).toNat * 6)).block, (ad44001.add ((x5_1).toNat * 6)).off + 2, none⟩ = some (.int .i64 ((rd_T59 l0 x5_1).f1.f1)) ∧ w'.cell? ⟨(ad44001.add ((x5_1).toNat * 6)).block, (ad44001.add ((x5_1).toNat * 6)).off + 3, none⟩ = some (.int .i64 ((rd_T59 l0 x5_1).f1.f2)) ∧ w'.cell? ⟨(ad44001.add ((x5_1).toNat * 6)).block, (ad44001.add ((x5_1).toNat * 6)).off + 4, none⟩ = some (.int .i64 ((rd_T59 l0 x5_1).f1.f3)) ∧ w'.cell? ⟨(ad44001.add ((x5_1).toNat * 6)).block, (ad44001.add ((x5_1).toNat * 6)).off + 5, none⟩ = some (.slice A44001_5 ((rd_T59 l0 x5_1).f2).length c44001_5) ∧ w'.cell? (ad44002.add ((x5_1).toNat * 6)) = some (.int .i64 ((rd_T59 l1 x5_1).f0)) ∧ w'.cell? ⟨(ad44002.add ((x5_1).toNat * 6)).block, (ad44002.add ((x5_1).toNat * 6)).off + 1, none⟩ = some (.int .i64 ((rd_T59 l1 x5_1).f1.f0)) ∧ w'.cell? ⟨(ad44002.add ((x5_1).toNat * 6)).block, (ad44002.add ((x5_1).toNat * 6)).off + 2, none⟩ = some (.int .i64 ((rd_T59 l1 x5_1).f1.f1)) ∧ w'.cell? ⟨(ad44002.add ((x5_1).toNat * 6)).block, (ad44002.add ((x5_1).toNat * 6)).off + 3, none⟩ = some (.int .i64 ((rd_T59 l1 x5_1).f1.f2)) ∧ w'.cell? ⟨(ad44002.add ((x5_1).toNat * 6)).block, (ad44002.add ((x5_1).toNat * 6)).off + 4, none⟩ = some (.int .i64 ((rd_T59 l1 x5_1).f1.f3)) ∧ w'.cell? ⟨(ad44002.add ((x5_1).toNat * 6)).block, (ad44002.add ((x5_1).toNat * 6)).off + 5, none⟩ = some (.slice A44002_5 ((rd_T59 l1 x5_1).f2).length c44002_5)) (ds := []) #[false, false, false, false, false, false, false, false, false, false] (by kernel_rfl) rfl rfl ⟨((HB.out.cell (World.block_lt_of_cell? w _ hw44001_0)).trans hw44001_0), ((HB.out.cell (World.block_lt_of_cell? w _ hw44001_1)).trans hw44001_1), ((HB.out.cell (World.block_lt_of_cell? w _ hw44001_2)).trans hw44001_2), ((HB.out.cell (World.block_lt_of_cell? w _ hw44001_3)).trans hw44001_3), ((HB.out.cell (World.block_lt_of_cell? w _ hw44001_4)).trans hw44001_4), ((HB.out.cell (World.block_lt_of_cell? w _ hw44001_5)).trans hw44001_5), ((HB.out.cell (World.block_lt_of_cell? w _ hw44002_0)).trans hw44002_0), ((HB.out.cell (World.block_lt_of_cell? w _ hw44002_1)).trans hw44002_1), ((HB.out.cell (World.block_lt_of_cell? w _ hw44002_2)).trans hw44002_2), ((HB.out.cell (World.block_lt_of_cell? w _ hw44002_3)).trans hw44002_3), ((HB.out.cell (World.block_lt_of_cell? w _ hw44002_4)).trans hw44002_4), ((HB.out.cell (World.block_lt_of_cell? w _ hw44002_5)).trans hw44002_5)⟩ (fun hHeld => ?_); refine with_tabW laws_eqStepS.tab6 laws_eqStepS.bits6 (fun HT_ HW_ => ?_)
                generalize wr.drew = w9 at HB HR44001_5 HR44002_5 hx44001_0 hx44001_1 hx44001_2 hx44001_3 hx44001_4 hx44001_5 hx44002_0 hx44002_1 hx44002_2 hx44002_3 hx44002_4 hx44002_5 hHeld ⊢
                refine pure_ (i := 0) (N := some 17) (v := ?_) (a' := ?_) #[true, false, false, false, false, false, false, false, false, false] rfl rfl (any_of HT_.out (by kernel_rfl)) (fun _ _ _ h => h) (Or.inl ⟨by rfl, ?_⟩) ?_ ?_
                rotate_left
                · intro w'
                  go_simp
                  with_reducible rfl
                rotate_left
                · simp only [Act.put, List.setIfInBounds_toArray, List.set_cons_zero, List.set_cons_succ, i64_w, i32_w]
                  rfl
                refine pure_ (i := 1) (N := some 18) (v := ?_) (a' := ?_) #[true, true, false, false, false, false, false, false, false, false] rfl rfl (any_of HT_.out (by kernel_rfl)) (fun _ _ _ h => h) (Or.inl ⟨by rfl, ?_⟩) ?_ ?_
                rotate_left
                · intro w'
                  go_simp
                  with_reducible rfl
                rotate_left
                · simp only [Act.put, List.setIfInBounds_toArray, List.set_cons_zero, List.set_cons_succ, i64_w, i32_w]
                  rfl
                refine pure_ (i := 2) (N := some 19) (v := ?_) (a' := ?_) #[true, true, true, false, false, false, false, false, false, false] rfl rfl (any_of HT_.out (by kernel_rfl)) (fun _ _ _ h => h) (Or.inl ⟨by rfl, ?_⟩) ?_ ?_
                rotate_left
                · intro w'
                  go_simp
                  with_reducible rfl
                rotate_left
                · simp only [Act.put, List.setIfInBounds_toArray, List.set_cons_zero, List.set_cons_succ, i64_w, i32_w]
                  rfl
                refine pure_ (i := 4) (N := some 21) (v := ?_) (a' := ?_) #[true, true, true, false, true, false, false, false, false, false] rfl rfl (any_of HT_.out (by kernel_rfl)) (fun _ _ _ h => h) (Or.inl ⟨by rfl, ?_⟩) ?_ ?_
                rotate_left
                · intro w'
                  go_simp
                  with_reducible rfl
                rotate_left
                · simp only [Act.put, List.setIfInBounds_toArray, List.set_cons_zero, List.set_cons_succ, i64_w, i32_w]
                  rfl
                refine pure_ (i := 5) (N := some 22) (v := ?_) (a' := ?_) #[true, true, true, false, true, true, false, false, false, false] rfl rfl (any_of HT_.out (by kernel_rfl)) (fun _ _ _ h => h) (Or.inl ⟨by rfl, ?_⟩) ?_ ?_
                rotate_left
                · intro w'
                  go_simp
                  with_reducible rfl
                rotate_left
                · simp only [Act.put, List.setIfInBounds_toArray, List.set_cons_zero, List.set_cons_succ, i64_w, i32_w]
                  rfl
                refine pure_ (i := 6) (N := some 23) (v := ?_) (a' := ?_) #[true, true, true, false, true, true, true, false, false, false] rfl rfl (any_of HT_.out (by kernel_rfl)) (fun _ _ _ h => h) (Or.inl ⟨by rfl, ?_⟩) ?_ ?_
                rotate_left
                · intro w'
                  go_simp
                  with_reducible rfl
                rotate_left
                · simp only [Act.put, List.setIfInBounds_toArray, List.set_cons_zero, List.set_cons_succ, i64_w, i32_w]
                  rfl
                refine take_ (i := 3) (N := some 20) (v := ?_) (a' := ?_) #[true, true, true, true, true, true, true, false, false, false] rfl rfl (take_ofW HT_.out HW_.out (by kernel_rfl)) (fun _ _ _ h => h) (Or.inl ⟨by rfl, ?_⟩) hHeld ?_ ?_
                rotate_left
                · rintro w' ⟨s0, s1, s2, s3, s4, s5, s6, s7, s8, s9, s10, s11⟩
                  go_simp
                  with_reducible rfl
                rotate_left
                · simp only [Act.put, List.setIfInBounds_toArray, List.set_cons_zero, List.set_cons_succ, i64_w, i32_w]
                  rfl
                refine take_ (i := 7) (N := some 24) (v := ?_) (a' := ?_) #[true, true, true, true, true, true, true, true, false, false] rfl rfl (take_ofW HT_.out HW_.out (by kernel_rfl)) (fun _ _ _ h => h) (Or.inl ⟨by rfl, ?_⟩) hHeld ?_ ?_
                rotate_left
                · rintro w' ⟨s0, s1, s2, s3, s4, s5, s6, s7, s8, s9, s10, s11⟩
                  go_simp
                  with_reducible rfl
                rotate_left
                · simp only [Act.put, List.setIfInBounds_toArray, List.set_cons_zero, List.set_cons_succ, i64_w, i32_w]
                  rfl
                refine one_ (i := 8) (N := some 25) #[true, true, true, true, true, true, true, true, true, false] rfl rfl (one_of HT_.out (by kernel_rfl)) (by decide) (fun K hK => ?_)
                refine goes_ Try.func78 (by kernel_rfl) rfl #[.agg #[.int .i64 ((rd_T59 l0 x5_1).f0), .int .i64 ((rd_T59 l0 x5_1).f1.f0), .int .i64 ((rd_T59 l0 x5_1).f1.f1), .int .i64 ((rd_T59 l0 x5_1).f1.f2), .int .i64 ((rd_T59 l0 x5_1).f1.f3), .slice A44001_5 ((rd_T59 l0 x5_1).f2).length c44001_5], .agg #[.int .i64 ((rd_T59 l1 x5_1).f0), .int .i64 ((rd_T59 l1 x5_1).f1.f0), .int .i64 ((rd_T59 l1 x5_1).f1.f1), .int .i64 ((rd_T59 l1 x5_1).f1.f2), .int .i64 ((rd_T59 l1 x5_1).f1.f3), .slice A44002_5 ((rd_T59 l1 x5_1).f2).length c44002_5]] (by rfl) rfl rfl (by (try simp only [List.map_toArray, List.map_cons, List.map_nil]); first | done | rfl | (simp only [List.length_drop, List.length_take]; rfl)) ?_
                with_reducible refine (laws_eqStep.calls k1 ((rd_T59 l0 x5_1).f0) ((rd_T59 l0 x5_1).f1.f0) ((rd_T59 l0 x5_1).f1.f1) ((rd_T59 l0 x5_1).f1.f2) ((rd_T59 l0 x5_1).f1.f3) _ _ ((rd_T59 l0 x5_1).f2) ((rd_T59 l1 x5_1).f0) ((rd_T59 l1 x5_1).f1.f0) ((rd_T59 l1 x5_1).f1.f1) ((rd_T59 l1 x5_1).f1.f2) ((rd_T59 l1 x5_1).f1.f3) _ _ ((rd_T59 l1 x5_1).f2) true _ ?side1 ?side2 ?side3 ?side4 A7.out).mono ?_
                (case side1 => repeat (first | exact (Kd.C_below HR44001_5.out HB.out) | (with_reducible refine Kd.C_alloc ?_ _) | (with_reducible refine Kd.C_drewN ?_ _) | (with_reducible refine Kd.C_drew ?_)))
                (case side2 => exact HC44001_5.out)
                (case side3 => repeat (first | exact (Kd.C_below HR44002_5.out HB.out) | (with_reducible refine Kd.C_alloc ?_ _) | (with_reducible refine Kd.C_drewN ?_ _) | (with_reducible refine Kd.C_drew ?_)))
                (case side4 => exact HC44002_5.out)
                rintro e w10 ⟨rfl, hb⟩
                refine ⟨_, rfl, ?_⟩
                have n0_ := Aside0.mk (below_step (by repeat (first | (with_reducible first | exact HB.out | apply below_alloc | apply pw_below_drewN | apply below_drew1) | exact HB.out)) hb)
                clear HB
                have HB := n0_
                clear n0_
                (try clear hb)
                (try clear hb2)
                (try clear hk)
                (try clear hi)
                refine hK.out _ _ ⟨((HB.out.cell (World.block_lt_of_cell? w _ hw44001_0)).trans hw44001_0), ((HB.out.cell (World.block_lt_of_cell? w _ hw44001_1)).trans hw44001_1), ((HB.out.cell (World.block_lt_of_cell? w _ hw44001_2)).trans hw44001_2), ((HB.out.cell (World.block_lt_of_cell? w _ hw44001_3)).trans hw44001_3), ((HB.out.cell (World.block_lt_of_cell? w _ hw44001_4)).trans hw44001_4), ((HB.out.cell (World.block_lt_of_cell? w _ hw44001_5)).trans hw44001_5), ((HB.out.cell (World.block_lt_of_cell? w _ hw44002_0)).trans hw44002_0), ((HB.out.cell (World.block_lt_of_cell? w _ hw44002_1)).trans hw44002_1), ((HB.out.cell (World.block_lt_of_cell? w _ hw44002_2)).trans hw44002_2), ((HB.out.cell (World.block_lt_of_cell? w _ hw44002_3)).trans hw44002_3), ((HB.out.cell (World.block_lt_of_cell? w _ hw44002_4)).trans hw44002_4), ((HB.out.cell (World.block_lt_of_cell? w _ hw44002_5)).trans hw44002_5)⟩ (fun hHeld => ?_)
                clear hK K
                refine norm_ (a' := ?_) ?_ ?_
                rotate_left
                · show Act.put _ (some 25) _ = _
                  simp only [Act.put, List.setIfInBounds_toArray, List.set_cons_zero, List.set_cons_succ, i64_w, i32_w]
                  rfl
                refine pure_ (i := 9) (N := some 26) (v := ?_) (a' := ?_) #[true, true, true, true, true, true, true, true, true, true] rfl rfl (any_of HT_.out (by kernel_rfl)) (fun _ _ _ h => h) (Or.inl ⟨by rfl, ?_⟩) ?_ ?_
                rotate_left
                · intro w'
                  go_simp
                  with_reducible rfl
                rotate_left
                · simp only [Act.put, List.setIfInBounds_toArray, List.set_cons_zero, List.set_cons_succ, i64_w, i32_w]
                  rfl
                refine done_ (done_of HT_.out (by kernel_rfl)) ?_
                try go_wp2
                go_roundg k1
                case measure => have := HK1.out; omega
                case rel => exact ⟨(wrap64 (x5_1 + 1)), (by first | rfl | (simp; done) | (simp [*]; done)), H', ⟨by have := HK1.out; omega⟩, ⟨by repeat (first | (with_reducible first | exact HB.out | apply below_alloc | apply pw_below_drewN | apply below_drew1) | exact HB.out)⟩⟩
              · replace c8 := Bool.eq_false_iff.mpr c8
                subst c8
                have H1 : (some false) = some r := by rw [if_neg (show ¬ (false = true) by decide)] at H; exact H
                clear H
                have H := H1
                clear H1
                obtain rfl := Option.some.inj H
                try go_wp2
                have n0_ := Aside0.mk (below_drew1 HB.out)
                clear HB
                have HB := n0_
                clear n0_
                have p44001 : 0 ≤ (x5_1 : Int) := of_decide_eq_true (by first | (with_reducible assumption) | assumption)
                have q44001 : x5_1 < (l0.length : Int) := of_decide_eq_true (by first | (with_reducible assumption) | assumption)
                obtain ⟨ad44001, A44001_5, c44001_5, e44001, hx44001_0, hx44001_1, hx44001_2, hx44001_3, hx44001_4, hx44001_5, hl44001_5, hi44001_5⟩ := at_T59 HR0.out x5_1 p44001 q44001
                have hw44001_5 := hx44001_5
                have hw44001_4 := hx44001_4
                have hw44001_3 := hx44001_3
                have hw44001_2 := hx44001_2
                have hw44001_1 := hx44001_1
                have hw44001_0 := hx44001_0
                cases e44001
                replace hx44001_0 := (HB.out.cell (World.block_lt_of_cell? w _ hx44001_0)).trans hx44001_0
                replace hx44001_1 := (HB.out.cell (World.block_lt_of_cell? w _ hx44001_1)).trans hx44001_1
                replace hx44001_2 := (HB.out.cell (World.block_lt_of_cell? w _ hx44001_2)).trans hx44001_2
                replace hx44001_3 := (HB.out.cell (World.block_lt_of_cell? w _ hx44001_3)).trans hx44001_3
                replace hx44001_4 := (HB.out.cell (World.block_lt_of_cell? w _ hx44001_4)).trans hx44001_4
                replace hx44001_5 := (HB.out.cell (World.block_lt_of_cell? w _ hx44001_5)).trans hx44001_5
                have HR44001_5 := Aside0.mk hi44001_5
                have HC44001_5 := Aside0.mk hl44001_5
                clear hi44001_5 hl44001_5
                replace p44001 := eq_true p44001
                replace q44001 := eq_true q44001
                have p44002 : 0 ≤ (x5_1 : Int) := of_decide_eq_true (by first | (with_reducible assumption) | assumption)
                have q44002 : x5_1 < (l1.length : Int) := of_decide_eq_true (by first | (with_reducible assumption) | assumption)
                obtain ⟨ad44002, A44002_5, c44002_5, e44002, hx44002_0, hx44002_1, hx44002_2, hx44002_3, hx44002_4, hx44002_5, hl44002_5, hi44002_5⟩ := at_T59 HR1.out x5_1 p44002 q44002
                have hw44002_5 := hx44002_5
                have hw44002_4 := hx44002_4
                have hw44002_3 := hx44002_3
                have hw44002_2 := hx44002_2
                have hw44002_1 := hx44002_1
                have hw44002_0 := hx44002_0
                cases e44002
                replace hx44002_0 := (HB.out.cell (World.block_lt_of_cell? w _ hx44002_0)).trans hx44002_0
                replace hx44002_1 := (HB.out.cell (World.block_lt_of_cell? w _ hx44002_1)).trans hx44002_1
                replace hx44002_2 := (HB.out.cell (World.block_lt_of_cell? w _ hx44002_2)).trans hx44002_2
                replace hx44002_3 := (HB.out.cell (World.block_lt_of_cell? w _ hx44002_3)).trans hx44002_3
                replace hx44002_4 := (HB.out.cell (World.block_lt_of_cell? w _ hx44002_4)).trans hx44002_4
                replace hx44002_5 := (HB.out.cell (World.block_lt_of_cell? w _ hx44002_5)).trans hx44002_5
                have HR44002_5 := Aside0.mk hi44002_5
                have HC44002_5 := Aside0.mk hl44002_5
                clear hi44002_5 hl44002_5
                replace p44002 := eq_true p44002
                replace q44002 := eq_true q44002
                refine start_ (n := 10) (S := fun w' => w'.cell? (ad44001.add ((x5_1).toNat * 6)) = some (.int .i64 ((rd_T59 l0 x5_1).f0)) ∧ w'.cell? ⟨(ad44001.add ((x5_1).toNat * 6)).block, (ad44001.add ((x5_1).toNat * 6)).off + 1, none⟩ = some (.int .i64 ((rd_T59 l0 x5_1).f1.f0)) ∧ w'.cell? ⟨(ad44001.add ((x5_1).toNat * 6)).block, (ad44001.add ((x5_1).toNat * 6)).off + 2, none⟩ = some (.int .i64 ((rd_T59 l0 x5_1).f1.f1)) ∧ w'.cell? ⟨(ad44001.add ((x5_1).toNat * 6)).block, (ad44001.add ((x5_1).toNat * 6)).off + 3, none⟩ = some (.int .i64 ((rd_T59 l0 x5_1).f1.f2)) ∧ w'.cell? ⟨(ad44001.add ((x5_1).toNat * 6)).block, (ad44001.add ((x5_1).toNat * 6)).off + 4, none⟩ = some (.int .i64 ((rd_T59 l0 x5_1).f1.f3)) ∧ w'.cell? ⟨(ad44001.add ((x5_1).toNat * 6)).block, (ad44001.add ((x5_1).toNat * 6)).off + 5, none⟩ = some (.slice A44001_5 ((rd_T59 l0 x5_1).f2).length c44001_5) ∧ w'.cell? (ad44002.add ((x5_1).toNat * 6)) = some (.int .i64 ((rd_T59 l1 x5_1).f0)) ∧ w'.cell? ⟨(ad44002.add ((x5_1).toNat * 6)).block, (ad44002.add ((x5_1).toNat * 6)).off + 1, none⟩ = some (.int .i64 ((rd_T59 l1 x5_1).f1.f0)) ∧ w'.cell? ⟨(ad44002.add ((x5_1).toNat * 6)).block, (ad44002.add ((x5_1).toNat * 6)).off + 2, none⟩ = some (.int .i64 ((rd_T59 l1 x5_1).f1.f1)) ∧ w'.cell? ⟨(ad44002.add ((x5_1).toNat * 6)).block, (ad44002.add ((x5_1).toNat * 6)).off + 3, none⟩ = some (.int .i64 ((rd_T59 l1 x5_1).f1.f2)) ∧ w'.cell? ⟨(ad44002.add ((x5_1).toNat * 6)).block, (ad44002.add ((x5_1).toNat * 6)).off + 4, none⟩ = some (.int .i64 ((rd_T59 l1 x5_1).f1.f3)) ∧ w'.cell? ⟨(ad44002.add ((x5_1).toNat * 6)).block, (ad44002.add ((x5_1).toNat * 6)).off + 5, none⟩ = some (.slice A44002_5 ((rd_T59 l1 x5_1).f2).length c44002_5)) (ds := []) #[false, false, false, false, false, false, false, false, false, false] (by kernel_rfl) rfl rfl ⟨((HB.out.cell (World.block_lt_of_cell? w _ hw44001_0)).trans hw44001_0), ((HB.out.cell (World.block_lt_of_cell? w _ hw44001_1)).trans hw44001_1), ((HB.out.cell (World.block_lt_of_cell? w _ hw44001_2)).trans hw44001_2), ((HB.out.cell (World.block_lt_of_cell? w _ hw44001_3)).trans hw44001_3), ((HB.out.cell (World.block_lt_of_cell? w _ hw44001_4)).trans hw44001_4), ((HB.out.cell (World.block_lt_of_cell? w _ hw44001_5)).trans hw44001_5), ((HB.out.cell (World.block_lt_of_cell? w _ hw44002_0)).trans hw44002_0), ((HB.out.cell (World.block_lt_of_cell? w _ hw44002_1)).trans hw44002_1), ((HB.out.cell (World.block_lt_of_cell? w _ hw44002_2)).trans hw44002_2), ((HB.out.cell (World.block_lt_of_cell? w _ hw44002_3)).trans hw44002_3), ((HB.out.cell (World.block_lt_of_cell? w _ hw44002_4)).trans hw44002_4), ((HB.out.cell (World.block_lt_of_cell? w _ hw44002_5)).trans hw44002_5)⟩ (fun hHeld => ?_); refine with_tabW laws_eqStepS.tab6 laws_eqStepS.bits6 (fun HT_ HW_ => ?_)
                generalize wr.drew = w11 at HB HR44001_5 HR44002_5 hx44001_0 hx44001_1 hx44001_2 hx44001_3 hx44001_4 hx44001_5 hx44002_0 hx44002_1 hx44002_2 hx44002_3 hx44002_4 hx44002_5 hHeld ⊢
                refine pure_ (i := 0) (N := some 17) (v := ?_) (a' := ?_) #[true, false, false, false, false, false, false, false, false, false] rfl rfl (any_of HT_.out (by kernel_rfl)) (fun _ _ _ h => h) (Or.inl ⟨by rfl, ?_⟩) ?_ ?_
                rotate_left
                · intro w'
                  go_simp
                  with_reducible rfl
                rotate_left
                · simp only [Act.put, List.setIfInBounds_toArray, List.set_cons_zero, List.set_cons_succ, i64_w, i32_w]
                  rfl
                refine pure_ (i := 1) (N := some 18) (v := ?_) (a' := ?_) #[true, true, false, false, false, false, false, false, false, false] rfl rfl (any_of HT_.out (by kernel_rfl)) (fun _ _ _ h => h) (Or.inl ⟨by rfl, ?_⟩) ?_ ?_
                rotate_left
                · intro w'
                  go_simp
                  with_reducible rfl
                rotate_left
                · simp only [Act.put, List.setIfInBounds_toArray, List.set_cons_zero, List.set_cons_succ, i64_w, i32_w]
                  rfl
                refine pure_ (i := 2) (N := some 19) (v := ?_) (a' := ?_) #[true, true, true, false, false, false, false, false, false, false] rfl rfl (any_of HT_.out (by kernel_rfl)) (fun _ _ _ h => h) (Or.inl ⟨by rfl, ?_⟩) ?_ ?_
                rotate_left
                · intro w'
                  go_simp
                  with_reducible rfl
                rotate_left
                · simp only [Act.put, List.setIfInBounds_toArray, List.set_cons_zero, List.set_cons_succ, i64_w, i32_w]
                  rfl
                refine pure_ (i := 4) (N := some 21) (v := ?_) (a' := ?_) #[true, true, true, false, true, false, false, false, false, false] rfl rfl (any_of HT_.out (by kernel_rfl)) (fun _ _ _ h => h) (Or.inl ⟨by rfl, ?_⟩) ?_ ?_
                rotate_left
                · intro w'
                  go_simp
                  with_reducible rfl
                rotate_left
                · simp only [Act.put, List.setIfInBounds_toArray, List.set_cons_zero, List.set_cons_succ, i64_w, i32_w]
                  rfl
                refine pure_ (i := 5) (N := some 22) (v := ?_) (a' := ?_) #[true, true, true, false, true, true, false, false, false, false] rfl rfl (any_of HT_.out (by kernel_rfl)) (fun _ _ _ h => h) (Or.inl ⟨by rfl, ?_⟩) ?_ ?_
                rotate_left
                · intro w'
                  go_simp
                  with_reducible rfl
                rotate_left
                · simp only [Act.put, List.setIfInBounds_toArray, List.set_cons_zero, List.set_cons_succ, i64_w, i32_w]
                  rfl
                refine pure_ (i := 6) (N := some 23) (v := ?_) (a' := ?_) #[true, true, true, false, true, true, true, false, false, false] rfl rfl (any_of HT_.out (by kernel_rfl)) (fun _ _ _ h => h) (Or.inl ⟨by rfl, ?_⟩) ?_ ?_
                rotate_left
                · intro w'
                  go_simp
                  with_reducible rfl
                rotate_left
                · simp only [Act.put, List.setIfInBounds_toArray, List.set_cons_zero, List.set_cons_succ, i64_w, i32_w]
                  rfl
                refine take_ (i := 3) (N := some 20) (v := ?_) (a' := ?_) #[true, true, true, true, true, true, true, false, false, false] rfl rfl (take_ofW HT_.out HW_.out (by kernel_rfl)) (fun _ _ _ h => h) (Or.inl ⟨by rfl, ?_⟩) hHeld ?_ ?_
                rotate_left
                · rintro w' ⟨s0, s1, s2, s3, s4, s5, s6, s7, s8, s9, s10, s11⟩
                  go_simp
                  with_reducible rfl
                rotate_left
                · simp only [Act.put, List.setIfInBounds_toArray, List.set_cons_zero, List.set_cons_succ, i64_w, i32_w]
                  rfl
                refine take_ (i := 7) (N := some 24) (v := ?_) (a' := ?_) #[true, true, true, true, true, true, true, true, false, false] rfl rfl (take_ofW HT_.out HW_.out (by kernel_rfl)) (fun _ _ _ h => h) (Or.inl ⟨by rfl, ?_⟩) hHeld ?_ ?_
                rotate_left
                · rintro w' ⟨s0, s1, s2, s3, s4, s5, s6, s7, s8, s9, s10, s11⟩
                  go_simp
                  with_reducible rfl
                rotate_left
                · simp only [Act.put, List.setIfInBounds_toArray, List.set_cons_zero, List.set_cons_succ, i64_w, i32_w]
                  rfl
                refine one_ (i := 8) (N := some 25) #[true, true, true, true, true, true, true, true, true, false] rfl rfl (one_of HT_.out (by kernel_rfl)) (by decide) (fun K hK => ?_)
                refine goes_ Try.func78 (by kernel_rfl) rfl #[.agg #[.int .i64 ((rd_T59 l0 x5_1).f0), .int .i64 ((rd_T59 l0 x5_1).f1.f0), .int .i64 ((rd_T59 l0 x5_1).f1.f1), .int .i64 ((rd_T59 l0 x5_1).f1.f2), .int .i64 ((rd_T59 l0 x5_1).f1.f3), .slice A44001_5 ((rd_T59 l0 x5_1).f2).length c44001_5], .agg #[.int .i64 ((rd_T59 l1 x5_1).f0), .int .i64 ((rd_T59 l1 x5_1).f1.f0), .int .i64 ((rd_T59 l1 x5_1).f1.f1), .int .i64 ((rd_T59 l1 x5_1).f1.f2), .int .i64 ((rd_T59 l1 x5_1).f1.f3), .slice A44002_5 ((rd_T59 l1 x5_1).f2).length c44002_5]] (by rfl) rfl rfl (by (try simp only [List.map_toArray, List.map_cons, List.map_nil]); first | done | rfl | (simp only [List.length_drop, List.length_take]; rfl)) ?_
                with_reducible refine (laws_eqStep.calls k1 ((rd_T59 l0 x5_1).f0) ((rd_T59 l0 x5_1).f1.f0) ((rd_T59 l0 x5_1).f1.f1) ((rd_T59 l0 x5_1).f1.f2) ((rd_T59 l0 x5_1).f1.f3) _ _ ((rd_T59 l0 x5_1).f2) ((rd_T59 l1 x5_1).f0) ((rd_T59 l1 x5_1).f1.f0) ((rd_T59 l1 x5_1).f1.f1) ((rd_T59 l1 x5_1).f1.f2) ((rd_T59 l1 x5_1).f1.f3) _ _ ((rd_T59 l1 x5_1).f2) false _ ?side1 ?side2 ?side3 ?side4 A7.out).mono ?_
                (case side1 => repeat (first | exact (Kd.C_below HR44001_5.out HB.out) | (with_reducible refine Kd.C_alloc ?_ _) | (with_reducible refine Kd.C_drewN ?_ _) | (with_reducible refine Kd.C_drew ?_)))
                (case side2 => exact HC44001_5.out)
                (case side3 => repeat (first | exact (Kd.C_below HR44002_5.out HB.out) | (with_reducible refine Kd.C_alloc ?_ _) | (with_reducible refine Kd.C_drewN ?_ _) | (with_reducible refine Kd.C_drew ?_)))
                (case side4 => exact HC44002_5.out)
                rintro e w12 ⟨rfl, hb⟩
                refine ⟨_, rfl, ?_⟩
                have n0_ := Aside0.mk (below_step (by repeat (first | (with_reducible first | exact HB.out | apply below_alloc | apply pw_below_drewN | apply below_drew1) | exact HB.out)) hb)
                clear HB
                have HB := n0_
                clear n0_
                (try clear hb)
                (try clear hb2)
                (try clear hk)
                (try clear hi)
                refine hK.out _ _ ⟨((HB.out.cell (World.block_lt_of_cell? w _ hw44001_0)).trans hw44001_0), ((HB.out.cell (World.block_lt_of_cell? w _ hw44001_1)).trans hw44001_1), ((HB.out.cell (World.block_lt_of_cell? w _ hw44001_2)).trans hw44001_2), ((HB.out.cell (World.block_lt_of_cell? w _ hw44001_3)).trans hw44001_3), ((HB.out.cell (World.block_lt_of_cell? w _ hw44001_4)).trans hw44001_4), ((HB.out.cell (World.block_lt_of_cell? w _ hw44001_5)).trans hw44001_5), ((HB.out.cell (World.block_lt_of_cell? w _ hw44002_0)).trans hw44002_0), ((HB.out.cell (World.block_lt_of_cell? w _ hw44002_1)).trans hw44002_1), ((HB.out.cell (World.block_lt_of_cell? w _ hw44002_2)).trans hw44002_2), ((HB.out.cell (World.block_lt_of_cell? w _ hw44002_3)).trans hw44002_3), ((HB.out.cell (World.block_lt_of_cell? w _ hw44002_4)).trans hw44002_4), ((HB.out.cell (World.block_lt_of_cell? w _ hw44002_5)).trans hw44002_5)⟩ (fun hHeld => ?_)
                clear hK K
                refine norm_ (a' := ?_) ?_ ?_
                rotate_left
                · show Act.put _ (some 25) _ = _
                  simp only [Act.put, List.setIfInBounds_toArray, List.set_cons_zero, List.set_cons_succ, i64_w, i32_w]
                  rfl
                refine pure_ (i := 9) (N := some 26) (v := ?_) (a' := ?_) #[true, true, true, true, true, true, true, true, true, true] rfl rfl (any_of HT_.out (by kernel_rfl)) (fun _ _ _ h => h) (Or.inl ⟨by rfl, ?_⟩) ?_ ?_
                rotate_left
                · intro w'
                  go_simp
                  with_reducible rfl
                rotate_left
                · simp only [Act.put, List.setIfInBounds_toArray, List.set_cons_zero, List.set_cons_succ, i64_w, i32_w]
                  rfl
                refine done_ (done_of HT_.out (by kernel_rfl)) ?_
                try go_wp2
                go_ret
                exact ⟨by first | rfl | (simp [errW_none, errW_some] <;> rfl) | (simp [*, errW_none, errW_some] <;> rfl), by repeat (first | (with_reducible first | exact HB.out | apply below_alloc | apply pw_below_drewN | apply below_drew1) | exact HB.out)⟩
            · rw [if_neg c6] at H
              exact absurd H (by simp)
          · rw [if_neg c5] at H
            exact absurd H (by simp)
        · rw [if_neg c4] at H
          have c4b0 : decide (x5_1 < (l0.length : Int)) = false := decide_eq_false c4
          clear c4
          obtain rfl := Option.some.inj H
          go_wp2
          go_ret
          exact ⟨by first | rfl | (simp [errW_none, errW_some] <;> rfl) | (simp [*, errW_none, errW_some] <;> rfl), by repeat (first | (with_reducible first | exact HB.out | apply below_alloc | apply pw_below_drewN | apply below_drew1) | exact HB.out)⟩
  · rw [if_neg c3] at H
    have c3b0 : ((l0.length : Int) == (l1.length : Int)) = false := beq_eq_false_iff_ne.mpr c3
    have c3b1 : ((l0.length : Int) != (l1.length : Int)) = true := bne_iff_ne.mpr c3
    have c3b2 : (l0.length == l1.length) = false := by first | simpa using c3 | (simp at c3 ⊢; omega)
    obtain rfl := Option.some.inj H
    go_enter Try.func43, Try.ntmps43
    go_wp2
    go_ret
    exact ⟨by first | rfl | (simp [errW_none, errW_some] <;> rfl) | (simp [*, errW_none, errW_some] <;> rfl), by repeat (first | (with_reducible first | exact HB.out | apply below_alloc | apply pw_below_drewN | apply below_drew1) | exact HB.out)⟩


def laws_markIntS.l0 : Nat → List Int → Int → Int → Option (Int × List Int)
  | 0, _, _, _ => none
  | k + 1, x0, x1, x5 => if x5 < (x0.length : Int) then (if 0 ≤ x5 then (laws_markIntS.l0 k (x0.set (x5 : Int).toNat x1) (wrap64 (x1 + 1)) (wrap64 (x5 + 1))) else (none)) else (some (x1, x0))
def laws_markIntS.f (k : Nat) (l0 : List Int) (a1 : Int) : Option (Int × List Int) := laws_markIntS.l0 k l0 a1 0
set_option maxHeartbeats 8000000 in
set_option maxRecDepth 100000 in
theorem laws_markIntS.calls (k : Nat) (P0_ : Nat → Prop) (u9000_ : Value) (l0 : List Int) (a1 : Int) (r1 : Int) (r2 : List Int) (w0 w : World) (hB : Below w0.heap.size w0 w) (ho0 : Kd.R (Kd.int .i64) 3 w w0.heap.size P0_ u9000_ l0) (h : laws_markIntS.f k l0 a1 = some (r1, r2)) :
    Calls Try.prog 79 #[u9000_, .int .i64 a1] w fun e w' => e = .returned (.int .i64 r1) ∧ Kd.R (Kd.int .i64) 3 w' w0.heap.size (fun k_ => (P0_ k_ ∨ w.heap.size ≤ k_)) u9000_ r2 ∧ Below w0.heap.size w0 w' ∧ Kept w w' (fun k_ => P0_ k_) := by
  have HO0 := Aside0.mk (show Kd.R (Kd.int .i64) 3 w w0.heap.size (fun k_ => (P0_ k_ ∨ w.heap.size ≤ k_)) u9000_ l0 from Kd.R_mono ho0 (fun k_ hk => (.inl hk)))
  have HK := Aside0.mk (Kept.refl w (fun k_ => P0_ k_))
  have HW0 := Aside0.mk hB.size
  have HB := Aside0.mk hB
  clear hB
  have H : (laws_markIntS.l0 k l0 a1 0) = some (r1, r2) := h
  clear h
  have H' := Aside0.mk H
  clear H
  go_enter Try.func79, Try.ntmps79
  go_wp2
  go_loopg [1, 5] k (fun kq v1 v5 w' => ∃ (x0_1 : List Int) (x1_1 : Int) (x5_1 : Int), v1 = .int .i64 x1_1 ∧ v5 = .int .i64 x5_1 ∧ Aside0 (laws_markIntS.l0 kq x0_1 x1_1 x5_1 = some (r1, r2)) ∧ Aside0 (kq ≤ k) ∧ Aside0 (Kd.R (Kd.int .i64) 3 w' w0.heap.size (fun k_ => (P0_ k_ ∨ w.heap.size ≤ k_)) u9000_ x0_1) ∧ Aside0 (Kept w w' (fun k_ => P0_ k_)) ∧ Aside0 (Below w0.heap.size w0 w'))
  case atStart => exact ⟨(l0), (a1), (0), (by first | rfl | (simp; done) | (simp [*]; done)), (by first | rfl | (simp; done) | (simp [*]; done)), H', ⟨Nat.le_refl _⟩, ⟨by (with_reducible repeat (first | apply Kd.R_alloc | apply Kd.R_drewN | apply Kd.R_drew)); exact HO0.out⟩, ⟨by repeat (first | (with_reducible first | exact HK.out | apply Kept.alloc | apply Kept.drewN | apply Kept.drew) | exact HK.out)⟩, ⟨by repeat (first | (with_reducible first | exact HB.out | apply below_alloc | apply pw_below_drewN | apply below_drew1) | exact HB.out)⟩⟩
  case round =>
    clear H'
    try clear p2
    obtain ⟨x0_1, x1_1, x5_1, rfl, rfl, HA, HK1, HO_0, HK, HB⟩ := hrel
    cases gk with
    | zero => exact absurd HA.out (by simp [laws_markIntS.l0])
    | succ k1 =>
      have H := HA.out
      clear HA
      simp only [laws_markIntS.l0] at H
      by_cases c3 : x5_1 < (x0_1.length : Int)
      · rw [if_pos c3] at H
        have c3b0 : decide (x5_1 < (x0_1.length : Int)) = true := decide_eq_true c3
        clear c3
        by_cases c4 : 0 ≤ x5_1
        · rw [if_pos c4] at H
          have c4b0 : decide (0 ≤ x5_1) = true := decide_eq_true c4
          clear c4
          obtain ⟨y80001, hy80001⟩ : ∃ y_ : List Int, y_ = (x0_1.set (x5_1 : Int).toNat x1_1) := ⟨_, rfl⟩
          replace H : (laws_markIntS.l0 k1 y80001 (wrap64 (x1_1 + 1)) (wrap64 (x5_1 + 1))) = some (r1, r2) := by first | (rw [hy80001]; with_reducible exact H) | (have H2_ := (Option.bind_some _ _).symm.trans H; rw [hy80001]; with_reducible exact H2_) | (have H2_ := (Option.bind_some _ _).symm.trans H; with_reducible exact H2_) | with_reducible exact H | (rw [hy80001]; exact H) | exact H
          have Ny80001 := Aside0.mk hy80001
          clear hy80001
          have H' := Aside0.mk H
          clear H
          obtain ⟨Ao6, co6, eo6⟩ := Kd.R_slice HO_0.out
          subst eo6
          have p5 : 0 ≤ (x5_1 : Int) := of_decide_eq_true (by first | (with_reducible assumption) | assumption)
          have q5 : (x5_1 : Int) < ((x0_1.length : Int) : Int) := of_decide_eq_true (by first | (with_reducible assumption) | assumption)
          obtain ⟨go5, co5, eo5, gb5, gl5, cl5, HG5⟩ := Kd.R_form HO_0.out (by omega)
          (first | cases eo5 | (injection eo5 with ea_ en_ ec_; (first | subst ea_ | (injection ea_ with ea_; subst ea_)); subst ec_; clear en_))
          have GB5 := Aside0.mk gb5
          have GG5 := Aside0.mk HG5
          clear gb5 gl5 HG5
          have HMgo5 := Aside0.mk (show (P0_ go5 ∨ w.heap.size ≤ go5) from (HO_0.out.1 _ rfl))
          obtain ⟨hx5_0, hf5_0⟩ := Kd.R_celln 0 HO_0.out (x5_1 : Int) p5 q5
          replace p5 := eq_true p5
          replace q5 := eq_true q5
          have HP7 := Kd.R_putg HO_0.out (x5_1 : Int) x1_1
          go_wp2_with (first | ((with_reducible refine gate_store (t := 3) (p := 15) rfl ?_); refine store_event (t := 3) (p := 15) (v := ?vo_w8) (w1 := (wr.setCell ⟨go5, (x5_1 : Int).toNat, none⟩ (.int .i64 x1_1))) ?hg ?ho ?hn ?hr ?_; (case ho => rfl); (case hg => rfl); (case hn => rfl); (case hr => first | (go_simp; done) | (go_simp; rfl)); intro w8 hw; have hg : wr.grownBy w8 (some go5) := (by rw [hw]; exact HP7.2); have hp_ : Kd.R (Kd.int .i64) 3 w8 w0.heap.size (fun k_ => (P0_ k_ ∨ w.heap.size ≤ k_)) (.slice (some ⟨go5, 0, none⟩) x0_1.length co6) y80001 := (by rw [hw, Ny80001.out]; exact HP7.1); clear HP7; have n0_ := Aside0.mk (hp_); have n1_ := Aside0.mk ((by rw [hw]; exact below_set (HB.out) GB5.out : Below w0.heap.size w0 w8)); have n2_ := Aside0.mk (Kept.of_grown (S := (fun k_ => P0_ k_)) hg (by repeat (first | (with_reducible first | exact HK.out | apply Kept.alloc | apply Kept.drewN | apply Kept.drew) | exact HK.out)) (fun k_ e_ => (HO_0.out.1 k_ e_))); clear HO_0; clear HB; clear HK; have HO_0 := n0_; have HB := n1_; have HK := n2_; clear n0_ n1_ n2_; clear hg hw hp_))
          go_roundg k1
          case measure => have := HK1.out; omega
          case rel => exact ⟨(y80001), (wrap64 (x1_1 + 1)), (wrap64 (x5_1 + 1)), (by first | rfl | (simp; done) | (simp [*]; done)), (by first | rfl | (simp; done) | (simp [*]; done)), H', ⟨by have := HK1.out; omega⟩, ⟨by (with_reducible repeat (first | apply Kd.R_alloc | apply Kd.R_drewN | apply Kd.R_drew)); exact HO_0.out⟩, ⟨by repeat (first | (with_reducible first | exact HK.out | apply Kept.alloc | apply Kept.drewN | apply Kept.drew) | exact HK.out)⟩, ⟨by repeat (first | (with_reducible first | exact HB.out | apply below_alloc | apply pw_below_drewN | apply below_drew1) | exact HB.out)⟩⟩
        · rw [if_neg c4] at H
          exact absurd H (by simp)
      · rw [if_neg c3] at H
        have c3b0 : decide (x5_1 < (x0_1.length : Int)) = false := decide_eq_false c3
        clear c3
        simp only [Option.some.injEq, Prod.mk.injEq] at H
        obtain ⟨rfl, rfl⟩ := H
        obtain ⟨Ao9, co9, eo9⟩ := Kd.R_slice HO_0.out
        subst eo9
        go_wp2
        go_ret
        exact ⟨by first | rfl | (simp [errW_none, errW_some] <;> rfl) | (simp [*, errW_none, errW_some] <;> rfl), by (with_reducible repeat (first | apply Kd.R_alloc | apply Kd.R_drewN | apply Kd.R_drew)); exact HO_0.out, by repeat (first | (with_reducible first | exact HB.out | apply below_alloc | apply pw_below_drewN | apply below_drew1) | exact HB.out), by repeat (first | (with_reducible first | exact HK.out | apply Kept.alloc | apply Kept.drewN | apply Kept.drew) | exact HK.out)⟩


/- Numbers written into every place of a row whose elements lead to rows (StepS). -/

def laws_markStepS.l0 : Nat → List (S59) → Int → Int → Option (Int × List (S59))
  | 0, _, _, _ => none
  | k + 1, x0, x1, x5 => if x5 < (x0.length : Int) then (if 0 ≤ x5 then ((laws_markIntS.f k (rd_T59 x0 x5).f2 (wrap64 ((wrap64 ((wrap64 ((wrap64 ((wrap64 (x1 + 1)) + 1)) + 1)) + 1)) + 1))).bind fun bt => laws_markStepS.l0 k (x0.set (x5 : Int).toNat (⟨x1, ⟨(wrap64 (x1 + 1)), (wrap64 ((wrap64 (x1 + 1)) + 1)), (wrap64 ((wrap64 ((wrap64 (x1 + 1)) + 1)) + 1)), (wrap64 ((wrap64 ((wrap64 ((wrap64 (x1 + 1)) + 1)) + 1)) + 1))⟩, bt.2⟩ : S59)) bt.1 (wrap64 (x5 + 1))) else none) else some (x1, x0)
def laws_markStepS.f (k : Nat) (l0 : List (S59)) (a1 : Int) : Option (Int × List (S59)) := laws_markStepS.l0 k l0 a1 0
set_option maxHeartbeats 8000000 in
set_option maxRecDepth 100000 in
theorem laws_markStepS.calls (k : Nat) (P0_ : Nat → Prop) (u9000_ : Value) (l0 : List (S59)) (a1 : Int) (r1 : Int) (r2 : List (S59)) (w0 w : World) (hB : Below w0.heap.size w0 w) (ho0 : Kd.S k59 59 w w0.heap.size (fun k_ => P0_ k_) u9000_ l0) (h : laws_markStepS.f k l0 a1 = some (r1, r2)) :
    Calls Try.prog 44 #[u9000_, .int .i64 a1] w fun e w' => e = .returned (.int .i64 r1) ∧ Kd.S k59 59 w' w0.heap.size (fun k_ => (P0_ k_ ∨ w.heap.size ≤ k_)) u9000_ r2 ∧ Below w0.heap.size w0 w' ∧ Kept w w' (fun k_ => P0_ k_) := by
  have HO := Aside0.mk ho0
  have HK := Aside0.mk (Kept.refl w (fun k_ => P0_ k_))
  have HB := Aside0.mk hB
  have H' := Aside0.mk (show laws_markStepS.l0 k l0 a1 0 = some (r1, r2) from h)
  clear h ho0 hB
  go_enter Try.func44, Try.ntmps44
  go_wp2
  go_loopg [1, 5] k (fun kq v1 v5 w' => ∃ (x0_1 : List (S59)) (x1_1 : Int) (x5_1 : Int), v1 = .int .i64 x1_1 ∧ v5 = .int .i64 x5_1 ∧ Aside0 (laws_markStepS.l0 kq x0_1 x1_1 x5_1 = some (r1, r2)) ∧ Aside0 (kq ≤ k) ∧ Aside0 (Kd.S k59 59 w' w0.heap.size (fun k_ => P0_ k_) u9000_ x0_1) ∧ Aside0 (Kept w w' (fun k_ => P0_ k_)) ∧ Aside0 (Below w0.heap.size w0 w'))
  case atStart => exact ⟨(l0), (a1), (0), (by first | rfl | (simp; done) | (simp [*]; done)), (by first | rfl | (simp; done) | (simp [*]; done)), H', ⟨Nat.le_refl _⟩, HO, HK, HB⟩
  case round =>
    clear H' HO HK HB
    try clear c2
    try clear p2
    obtain ⟨x0_1, x1_1, x5_1, rfl, rfl, HA, HK1, HO, HK, HB⟩ := hrel
    cases gk with
    | zero => exact absurd HA.out (by simp [laws_markStepS.l0])
    | succ k1 =>
      have H := HA.out
      clear HA
      simp only [laws_markStepS.l0] at H
      obtain ⟨Ao8, co8, eo8⟩ := Kd.S_slice HO.out
      subst eo8
      by_cases c3 : x5_1 < (x0_1.length : Int)
      · rw [if_pos c3] at H
        have c3b0 : decide (x5_1 < (x0_1.length : Int)) = true := decide_eq_true c3
        by_cases c4 : 0 ≤ x5_1
        · rw [if_pos c4] at H
          have c4b0 : decide (0 ≤ x5_1) = true := decide_eq_true c4
          replace H := Option.bind_eq_some_iff.mp H
          obtain ⟨⟨t1, t2⟩, hm_, H⟩ := H
          have HM := Aside0.mk hm_
          have H' := Aside0.mk H
          have P5 := Aside0.mk c4
          have Q5 := Aside0.mk (show x5_1 < ((x0_1.length : Int) : Int) from c3)
          clear H hm_
          obtain ⟨go5, co5, eo5, gb5, gl5, cl5, HG5⟩ := Kd.S_form HO.out (by omega)
          (first | cases eo5 | (injection eo5 with ea_ en_ ec_; (first | subst ea_ | (injection ea_ with ea_; subst ea_)); subst ec_; clear en_))
          have GB := Aside0.mk gb5
          have HP0 := Aside0.mk ((Kd.S_R HO.out).1 go5 rfl)
          obtain ⟨oki_, ce_, hcl_, hM_, _, _, hok_, hH_⟩ := Kd.S_elem HO.out z59 (x5_1 : Int) P5.out Q5.out
          have hO_ := k59_openM hM_
          obtain ⟨ve_, rfl, hR_⟩ := hO_
          obtain ⟨Av_, cv_, ev_⟩ := Kd.R_slice hR_
          subst ev_
          have HR := Aside0.mk (show Kd.R (Kd.int .i64) 3 wr w0.heap.size oki_ (.slice Av_ (rd_T59 x0_1 x5_1).f2.length cv_) (rd_T59 x0_1 x5_1).f2 from hR_)
          have HOK := Aside0.mk hok_
          have HH := Aside0.mk (show Kd.H k59 59 wr w0.heap.size (fun k_ => P0_ k_) (.slice (some ⟨go5, 0, none⟩) x0_1.length co8) x0_1 (x5_1 : Int) oki_ [.int .i64 (rd_T59 x0_1 x5_1).f0, .int .i64 (rd_T59 x0_1 x5_1).f1.f0, .int .i64 (rd_T59 x0_1 x5_1).f1.f1, .int .i64 (rd_T59 x0_1 x5_1).f1.f2, .int .i64 (rd_T59 x0_1 x5_1).f1.f3, (.slice Av_ (rd_T59 x0_1 x5_1).f2.length cv_)] from hH_)
          have p5_ := eq_true c4
          have q5_ := eq_true c3
          clear gb5 gl5 HG5 hcl_ hok_ hH_ hR_ c3 c4 HO; try clear hM_
          have hx_ : wr.cell? ⟨go5, (x5_1 : Int).toNat * 6, none⟩ = some (.int .i64 (rd_T59 x0_1 x5_1).f0) := (Kd.H_at HH.out P5.out Q5.out).1 0 _ rfl; have hf_ : wr.frozen? ⟨go5, (x5_1 : Int).toNat * 6, none⟩ = false := (Kd.H_at HH.out P5.out Q5.out).2 0
          go_wp2_with (first
            | ((with_reducible refine gate_store (t := 3) (p := 16) rfl ?_); refine store_event (t := 3) (p := 16) (v := ?vo_w1) (w1 := (wr.setCell ⟨go5, (x5_1 : Int).toNat * 6, none⟩ (.int .i64 x1_1))) ?hg ?ho ?hn ?hr ?_; (case ho => rfl); (case hg => rfl); (case hn => rfl); (case hr => first | (go_simp; done) | (go_simp; rfl)); intro w1 hw; obtain ⟨hh, hg⟩ := Kd.H_seg HH.out P5.out Q5.out (seg := [.int .i64 x1_1]) (j := 0) (show 1 ≤ 6 from by decide) (by simp [Value.oneCell']); replace hg : wr.grownBy w1 (some go5) := (by rw [hw]; exact hg); replace HH := Aside0.mk (show Kd.H k59 59 w1 w0.heap.size (fun k_ => P0_ k_) (.slice (some ⟨go5, 0, none⟩) x0_1.length co8) x0_1 (x5_1 : Int) oki_ [.int .i64 x1_1, .int .i64 (rd_T59 x0_1 x5_1).f1.f0, .int .i64 (rd_T59 x0_1 x5_1).f1.f1, .int .i64 (rd_T59 x0_1 x5_1).f1.f2, .int .i64 (rd_T59 x0_1 x5_1).f1.f3, (.slice Av_ (rd_T59 x0_1 x5_1).f2.length cv_)] from (by rw [hw]; exact hh)); replace HR := Aside0.mk (Kd.R_grown HR.out hg (fun k_ hk_ e_ => (HOK.out k_ hk_).2 (by injection e_))); replace HB := Aside0.mk (show Below w0.heap.size w0 w1 from (by rw [hw]; exact below_set HB.out GB.out)); replace HK := Aside0.mk (Kept.of_grown (S := fun k_ => P0_ k_) hg HK.out (fun k_ e_ => .inl (by injection e_ with e_; rw [← e_]; exact HP0.out))); clear hh hg hw hx_ hf_; have hx_ : w1.cell? ⟨go5, (x5_1 : Int).toNat * 6 + 1, none⟩ = some (.int .i64 (rd_T59 x0_1 x5_1).f1.f0) := (Kd.H_at HH.out P5.out Q5.out).1 1 _ rfl; have hf_ : w1.frozen? ⟨go5, (x5_1 : Int).toNat * 6 + 1, none⟩ = false := (Kd.H_at HH.out P5.out Q5.out).2 1)
            | ((with_reducible refine gate_store (t := 3) (p := 24) rfl ?_); refine store_event (t := 3) (p := 24) (v := ?vo_w2) (w1 := (w1.setCell ⟨go5, (x5_1 : Int).toNat * 6 + 1, none⟩ (.int .i64 (wrap64 (x1_1 + 1))))) ?hg ?ho ?hn ?hr ?_; (case ho => rfl); (case hg => rfl); (case hn => rfl); (case hr => first | (go_simp; done) | (go_simp; rfl)); intro w2 hw; obtain ⟨hh, hg⟩ := Kd.H_seg HH.out P5.out Q5.out (seg := [.int .i64 (wrap64 (x1_1 + 1))]) (j := 1) (show 2 ≤ 6 from by decide) (by simp [Value.oneCell']); replace hg : w1.grownBy w2 (some go5) := (by rw [hw]; exact hg); replace HH := Aside0.mk (show Kd.H k59 59 w2 w0.heap.size (fun k_ => P0_ k_) (.slice (some ⟨go5, 0, none⟩) x0_1.length co8) x0_1 (x5_1 : Int) oki_ [.int .i64 x1_1, .int .i64 (wrap64 (x1_1 + 1)), .int .i64 (rd_T59 x0_1 x5_1).f1.f1, .int .i64 (rd_T59 x0_1 x5_1).f1.f2, .int .i64 (rd_T59 x0_1 x5_1).f1.f3, (.slice Av_ (rd_T59 x0_1 x5_1).f2.length cv_)] from (by rw [hw]; exact hh)); replace HR := Aside0.mk (Kd.R_grown HR.out hg (fun k_ hk_ e_ => (HOK.out k_ hk_).2 (by injection e_))); replace HB := Aside0.mk (show Below w0.heap.size w0 w2 from (by rw [hw]; exact below_set HB.out GB.out)); replace HK := Aside0.mk (Kept.of_grown (S := fun k_ => P0_ k_) hg HK.out (fun k_ e_ => .inl (by injection e_ with e_; rw [← e_]; exact HP0.out))); clear hh hg hw hx_ hf_; have hx_ : w2.cell? ⟨go5, (x5_1 : Int).toNat * 6 + 1 + 1, none⟩ = some (.int .i64 (rd_T59 x0_1 x5_1).f1.f1) := (Kd.H_at HH.out P5.out Q5.out).1 2 _ rfl; have hf_ : w2.frozen? ⟨go5, (x5_1 : Int).toNat * 6 + 1 + 1, none⟩ = false := (Kd.H_at HH.out P5.out Q5.out).2 2)
            | ((with_reducible refine gate_store (t := 3) (p := 32) rfl ?_); refine store_event (t := 3) (p := 32) (v := ?vo_w3) (w1 := (w2.setCell ⟨go5, (x5_1 : Int).toNat * 6 + 1 + 1, none⟩ (.int .i64 (wrap64 ((wrap64 (x1_1 + 1)) + 1))))) ?hg ?ho ?hn ?hr ?_; (case ho => rfl); (case hg => rfl); (case hn => rfl); (case hr => first | (go_simp; done) | (go_simp; rfl)); intro w3 hw; obtain ⟨hh, hg⟩ := Kd.H_seg HH.out P5.out Q5.out (seg := [.int .i64 (wrap64 ((wrap64 (x1_1 + 1)) + 1))]) (j := 2) (show 3 ≤ 6 from by decide) (by simp [Value.oneCell']); replace hg : w2.grownBy w3 (some go5) := (by rw [hw]; exact hg); replace HH := Aside0.mk (show Kd.H k59 59 w3 w0.heap.size (fun k_ => P0_ k_) (.slice (some ⟨go5, 0, none⟩) x0_1.length co8) x0_1 (x5_1 : Int) oki_ [.int .i64 x1_1, .int .i64 (wrap64 (x1_1 + 1)), .int .i64 (wrap64 ((wrap64 (x1_1 + 1)) + 1)), .int .i64 (rd_T59 x0_1 x5_1).f1.f2, .int .i64 (rd_T59 x0_1 x5_1).f1.f3, (.slice Av_ (rd_T59 x0_1 x5_1).f2.length cv_)] from (by rw [hw]; exact hh)); replace HR := Aside0.mk (Kd.R_grown HR.out hg (fun k_ hk_ e_ => (HOK.out k_ hk_).2 (by injection e_))); replace HB := Aside0.mk (show Below w0.heap.size w0 w3 from (by rw [hw]; exact below_set HB.out GB.out)); replace HK := Aside0.mk (Kept.of_grown (S := fun k_ => P0_ k_) hg HK.out (fun k_ e_ => .inl (by injection e_ with e_; rw [← e_]; exact HP0.out))); clear hh hg hw hx_ hf_; have hx_ : w3.cell? ⟨go5, (x5_1 : Int).toNat * 6 + 1 + 2, none⟩ = some (.int .i64 (rd_T59 x0_1 x5_1).f1.f2) := (Kd.H_at HH.out P5.out Q5.out).1 3 _ rfl; have hf_ : w3.frozen? ⟨go5, (x5_1 : Int).toNat * 6 + 1 + 2, none⟩ = false := (Kd.H_at HH.out P5.out Q5.out).2 3)
            | ((with_reducible refine gate_store (t := 3) (p := 40) rfl ?_); refine store_event (t := 3) (p := 40) (v := ?vo_w4) (w1 := (w3.setCell ⟨go5, (x5_1 : Int).toNat * 6 + 1 + 2, none⟩ (.int .i64 (wrap64 ((wrap64 ((wrap64 (x1_1 + 1)) + 1)) + 1))))) ?hg ?ho ?hn ?hr ?_; (case ho => rfl); (case hg => rfl); (case hn => rfl); (case hr => first | (go_simp; done) | (go_simp; rfl)); intro w4 hw; obtain ⟨hh, hg⟩ := Kd.H_seg HH.out P5.out Q5.out (seg := [.int .i64 (wrap64 ((wrap64 ((wrap64 (x1_1 + 1)) + 1)) + 1))]) (j := 3) (show 4 ≤ 6 from by decide) (by simp [Value.oneCell']); replace hg : w3.grownBy w4 (some go5) := (by rw [hw]; exact hg); replace HH := Aside0.mk (show Kd.H k59 59 w4 w0.heap.size (fun k_ => P0_ k_) (.slice (some ⟨go5, 0, none⟩) x0_1.length co8) x0_1 (x5_1 : Int) oki_ [.int .i64 x1_1, .int .i64 (wrap64 (x1_1 + 1)), .int .i64 (wrap64 ((wrap64 (x1_1 + 1)) + 1)), .int .i64 (wrap64 ((wrap64 ((wrap64 (x1_1 + 1)) + 1)) + 1)), .int .i64 (rd_T59 x0_1 x5_1).f1.f3, (.slice Av_ (rd_T59 x0_1 x5_1).f2.length cv_)] from (by rw [hw]; exact hh)); replace HR := Aside0.mk (Kd.R_grown HR.out hg (fun k_ hk_ e_ => (HOK.out k_ hk_).2 (by injection e_))); replace HB := Aside0.mk (show Below w0.heap.size w0 w4 from (by rw [hw]; exact below_set HB.out GB.out)); replace HK := Aside0.mk (Kept.of_grown (S := fun k_ => P0_ k_) hg HK.out (fun k_ e_ => .inl (by injection e_ with e_; rw [← e_]; exact HP0.out))); clear hh hg hw hx_ hf_; have hx_ : w4.cell? ⟨go5, (x5_1 : Int).toNat * 6 + 1 + 3, none⟩ = some (.int .i64 (rd_T59 x0_1 x5_1).f1.f3) := (Kd.H_at HH.out P5.out Q5.out).1 4 _ rfl; have hf_ : w4.frozen? ⟨go5, (x5_1 : Int).toNat * 6 + 1 + 3, none⟩ = false := (Kd.H_at HH.out P5.out Q5.out).2 4)
            | ((with_reducible refine gate_store (t := 3) (p := 48) rfl ?_); refine store_event (t := 3) (p := 48) (v := ?vo_w5) (w1 := (w4.setCell ⟨go5, (x5_1 : Int).toNat * 6 + 1 + 3, none⟩ (.int .i64 (wrap64 ((wrap64 ((wrap64 ((wrap64 (x1_1 + 1)) + 1)) + 1)) + 1))))) ?hg ?ho ?hn ?hr ?_; (case ho => rfl); (case hg => rfl); (case hn => rfl); (case hr => first | (go_simp; done) | (go_simp; rfl)); intro w5 hw; obtain ⟨hh, hg⟩ := Kd.H_seg HH.out P5.out Q5.out (seg := [.int .i64 (wrap64 ((wrap64 ((wrap64 ((wrap64 (x1_1 + 1)) + 1)) + 1)) + 1))]) (j := 4) (show 5 ≤ 6 from by decide) (by simp [Value.oneCell']); replace hg : w4.grownBy w5 (some go5) := (by rw [hw]; exact hg); replace HH := Aside0.mk (show Kd.H k59 59 w5 w0.heap.size (fun k_ => P0_ k_) (.slice (some ⟨go5, 0, none⟩) x0_1.length co8) x0_1 (x5_1 : Int) oki_ [.int .i64 x1_1, .int .i64 (wrap64 (x1_1 + 1)), .int .i64 (wrap64 ((wrap64 (x1_1 + 1)) + 1)), .int .i64 (wrap64 ((wrap64 ((wrap64 (x1_1 + 1)) + 1)) + 1)), .int .i64 (wrap64 ((wrap64 ((wrap64 ((wrap64 (x1_1 + 1)) + 1)) + 1)) + 1)), (.slice Av_ (rd_T59 x0_1 x5_1).f2.length cv_)] from (by rw [hw]; exact hh)); replace HR := Aside0.mk (Kd.R_grown HR.out hg (fun k_ hk_ e_ => (HOK.out k_ hk_).2 (by injection e_))); replace HB := Aside0.mk (show Below w0.heap.size w0 w5 from (by rw [hw]; exact below_set HB.out GB.out)); replace HK := Aside0.mk (Kept.of_grown (S := fun k_ => P0_ k_) hg HK.out (fun k_ e_ => .inl (by injection e_ with e_; rw [← e_]; exact HP0.out))); clear hh hg hw hx_ hf_; have hx_ : w5.cell? ⟨go5, (x5_1 : Int).toNat * 6 + 5, none⟩ = some ((.slice Av_ (rd_T59 x0_1 x5_1).f2.length cv_)) := (Kd.H_at HH.out P5.out Q5.out).1 5 _ rfl; have hf_ : w5.frozen? ⟨go5, (x5_1 : Int).toNat * 6 + 5, none⟩ = false := (Kd.H_at HH.out P5.out Q5.out).2 5)
            | (go_at_call 79; (with_reducible refine (laws_markIntS.calls k1 oki_ (.slice Av_ (rd_T59 x0_1 x5_1).f2.length cv_) (rd_T59 x0_1 x5_1).f2 (wrap64 ((wrap64 ((wrap64 ((wrap64 ((wrap64 (x1_1 + 1)) + 1)) + 1)) + 1)) + 1)) t1 t2 w0 w5 HB.out HR.out HM.out).mono ?_); rintro e w6 ⟨rfl, hr, hb, hk⟩; replace HB := Aside0.mk hb; replace HR := Aside0.mk (Kd.R_reok rfl hr (fun k_ e_ => HR.out.1 k_ e_)); replace HH := Aside0.mk (Kd.H_step HH.out (fun k_ _ hn_ hlt_ => hk.2 k_ hlt_ hn_)); replace HK := Aside0.mk (Kept.then_ (S := fun k_ => P0_ k_) HK.out hk (fun k_ hs_ => .inl (HOK.out k_ hs_).1)); clear hr hb hk hx_ hf_))
          go_roundg k1
          case measure => have := HK1.out; omega
          case rel => exact ⟨x0_1.set (x5_1 : Int).toNat (⟨x1_1, ⟨(wrap64 (x1_1 + 1)), (wrap64 ((wrap64 (x1_1 + 1)) + 1)), (wrap64 ((wrap64 ((wrap64 (x1_1 + 1)) + 1)) + 1)), (wrap64 ((wrap64 ((wrap64 ((wrap64 (x1_1 + 1)) + 1)) + 1)) + 1))⟩, t2⟩ : S59), t1, wrap64 (x5_1 + 1), (by first | rfl | (simp; done) | (simp [*]; done)), (by first | rfl | (simp; done) | (simp [*]; done)), H', ⟨by have := HK1.out; omega⟩, ⟨Kd.H_back HH.out (k59_mkM _ _ _ (⟨x1_1, ⟨(wrap64 (x1_1 + 1)), (wrap64 ((wrap64 (x1_1 + 1)) + 1)), (wrap64 ((wrap64 ((wrap64 (x1_1 + 1)) + 1)) + 1)), (wrap64 ((wrap64 ((wrap64 ((wrap64 (x1_1 + 1)) + 1)) + 1)) + 1))⟩, t2⟩ : S59) HR.out) (fun _ h_ => h_)⟩, HK, HB⟩
        · rw [if_neg c4] at H
          cases H
      · rw [if_neg c3] at H
        have c3b0 : decide (x5_1 < (x0_1.length : Int)) = false := decide_eq_false c3
        clear c3
        simp only [Option.some.injEq, Prod.mk.injEq] at H
        obtain ⟨rfl, rfl⟩ := H
        go_wp2
        go_ret
        exact ⟨by first | rfl | (simp; done), Kd.S_mono HO.out (fun _ h_ => .inl h_), HB.out, HK.out⟩

def laws_heldIntS.l0 : Nat → List Int → Int → Int → Option (Int)
  | 0, _, _, _ => none
  | k + 1, x0, x1, x5 => if x5 < (x0.length : Int) then (if 0 ≤ x5 then (if (rd x0 x5) = x1 then (laws_heldIntS.l0 k x0 (wrap64 (x1 + 1)) (wrap64 (x5 + 1))) else (some (-1))) else (none)) else (some x1)
def laws_heldIntS.f (k : Nat) (l0 : List Int) (a1 : Int) : Option (Int) := laws_heldIntS.l0 k l0 a1 0
set_option maxHeartbeats 8000000 in
set_option maxRecDepth 100000 in
theorem laws_heldIntS.calls (k : Nat) (A0 : Option Addr) (c0 : Nat) (l0 : List Int) (a1 : Int) (r : Int) (w : World) (hr0 : Kd.C (Kd.int .i64) w A0 l0.length l0) (hc0 : l0.length ≤ c0) (h : laws_heldIntS.f k l0 a1 = some r) :
    Calls Try.prog 80 #[.slice A0 l0.length c0, .int .i64 a1] w fun e w' => e = .returned (.int .i64 r) ∧ Drawn0 w w' := by
  have HR0 := Aside0.mk hr0
  have HC0 := Aside0.mk hc0
  clear hr0 hc0
  have H : (laws_heldIntS.l0 k l0 a1 0) = some r := h
  clear h
  have H' := Aside0.mk H
  clear H
  go_enter Try.func80, Try.ntmps80
  go_wp2
  go_loopg [1, 5] k (fun kq v1 v5 w' => ∃ (x1_1 : Int) (x5_1 : Int), v1 = .int .i64 x1_1 ∧ v5 = .int .i64 x5_1 ∧ Aside0 (laws_heldIntS.l0 kq l0 x1_1 x5_1 = some r) ∧ Aside0 (kq ≤ k) ∧ Drawn0 w w')
  case atStart => exact ⟨(a1), (0), (by first | rfl | (simp; done) | (simp [*]; done)), (by first | rfl | (simp; done) | (simp [*]; done)), H', ⟨Nat.le_refl _⟩, by repeat (first | exact Drawn0.refl _ | apply Drawn0.step)⟩
  case round =>
    clear H'
    try clear p2
    obtain ⟨x1_1, x5_1, rfl, rfl, HA, HK1, ⟨m1, rfl⟩⟩ := hrel
    cases gk with
    | zero => exact absurd HA.out (by simp [laws_heldIntS.l0])
    | succ k1 =>
      have H := HA.out
      clear HA
      simp only [laws_heldIntS.l0] at H
      by_cases c3 : x5_1 < (l0.length : Int)
      · rw [if_pos c3] at H
        have c3b0 : decide (x5_1 < (l0.length : Int)) = true := decide_eq_true c3
        clear c3
        by_cases c4 : 0 ≤ x5_1
        · rw [if_pos c4] at H
          have c4b0 : decide (0 ≤ x5_1) = true := decide_eq_true c4
          clear c4
          by_cases c5 : (rd l0 x5_1) = x1_1
          · rw [if_pos c5] at H
            have c5b0 : ((rd l0 x5_1) == x1_1) = true := beq_iff_eq.mpr c5
            have c5b1 : ((rd l0 x5_1) != x1_1) = false := bne_eq_false_iff_eq.mpr c5
            clear c5
            have H' := Aside0.mk H
            clear H
            have p81001 : 0 ≤ (x5_1 : Int) := of_decide_eq_true (by first | (with_reducible assumption) | assumption)
            have q81001 : x5_1 < (l0.length : Int) := of_decide_eq_true (by first | (with_reducible assumption) | assumption)
            obtain ⟨ad81001, e81001, hx81001_0⟩ := Kd.at_int HR0.out x5_1 p81001 q81001
            cases e81001
            replace p81001 := eq_true p81001
            replace q81001 := eq_true q81001
            go_wp2
            go_roundg k1
            case measure => have := HK1.out; omega
            case rel => exact ⟨(wrap64 (x1_1 + 1)), (wrap64 (x5_1 + 1)), (by first | rfl | (simp; done) | (simp [*]; done)), (by first | rfl | (simp; done) | (simp [*]; done)), H', ⟨by have := HK1.out; omega⟩, by repeat (first | exact Drawn0.refl _ | apply Drawn0.step)⟩
          · rw [if_neg c5] at H
            have c5b0 : ((rd l0 x5_1) == x1_1) = false := beq_eq_false_iff_ne.mpr c5
            have c5b1 : ((rd l0 x5_1) != x1_1) = true := bne_iff_ne.mpr c5
            obtain rfl := Option.some.inj H
            have p81001 : 0 ≤ (x5_1 : Int) := of_decide_eq_true (by first | (with_reducible assumption) | assumption)
            have q81001 : x5_1 < (l0.length : Int) := of_decide_eq_true (by first | (with_reducible assumption) | assumption)
            obtain ⟨ad81001, e81001, hx81001_0⟩ := Kd.at_int HR0.out x5_1 p81001 q81001
            cases e81001
            replace p81001 := eq_true p81001
            replace q81001 := eq_true q81001
            go_wp2
            go_ret
            exact ⟨by first | rfl | (simp; done) | (simp [*]; done), by repeat (first | exact Drawn0.refl _ | apply Drawn0.step)⟩
        · rw [if_neg c4] at H
          exact absurd H (by simp)
      · rw [if_neg c3] at H
        have c3b0 : decide (x5_1 < (l0.length : Int)) = false := decide_eq_false c3
        clear c3
        obtain rfl := Option.some.inj H
        go_wp2
        go_ret
        exact ⟨by first | rfl | (simp; done) | (simp [*]; done), by repeat (first | exact Drawn0.refl _ | apply Drawn0.step)⟩


def laws_heldStepS.l0 : Nat → List (S59) → Int → Int → Option (Int)
  | 0, _, _, _ => none
  | k + 1, x0, x1, x5 => if x5 < (x0.length : Int) then (if 0 ≤ x5 then (if ((rd_T59 x0 x5).f0) = x1 then (if ((rd_T59 x0 x5).f1.f0) = (wrap64 (x1 + 1)) then (if ((rd_T59 x0 x5).f1.f1) = (wrap64 ((wrap64 (x1 + 1)) + 1)) then (if ((rd_T59 x0 x5).f1.f2) = (wrap64 ((wrap64 ((wrap64 (x1 + 1)) + 1)) + 1)) then (if ((rd_T59 x0 x5).f1.f3) = (wrap64 ((wrap64 ((wrap64 ((wrap64 (x1 + 1)) + 1)) + 1)) + 1)) then ((laws_heldIntS.f k ((rd_T59 x0 x5).f2) (wrap64 ((wrap64 ((wrap64 ((wrap64 ((wrap64 (x1 + 1)) + 1)) + 1)) + 1)) + 1))).bind fun t46007 => (if t46007 < 0 then (some (-1)) else (laws_heldStepS.l0 k x0 t46007 (wrap64 (x5 + 1))))) else (some (-1))) else (some (-1))) else (some (-1))) else (some (-1))) else (some (-1))) else (none)) else (some x1)
def laws_heldStepS.f (k : Nat) (l0 : List (S59)) (a1 : Int) : Option (Int) := laws_heldStepS.l0 k l0 a1 0
set_option maxHeartbeats 8000000 in
set_option maxRecDepth 100000 in
theorem laws_heldStepS.calls (k : Nat) (A0 : Option Addr) (c0 : Nat) (l0 : List (S59)) (a1 : Int) (r : Int) (w : World) (hr0 : Kd.C k59 w A0 l0.length l0) (hc0 : l0.length ≤ c0) (h : laws_heldStepS.f k l0 a1 = some r) :
    Calls Try.prog 45 #[.slice A0 l0.length c0, .int .i64 a1] w fun e w' => e = .returned (.int .i64 r) ∧ Drawn0 w w' := by
  have HR0 := Aside0.mk hr0
  have HC0 := Aside0.mk hc0
  clear hr0 hc0
  have H : (laws_heldStepS.l0 k l0 a1 0) = some r := h
  clear h
  have H' := Aside0.mk H
  clear H
  go_enter Try.func45, Try.ntmps45
  go_wp2
  go_loopg [1, 5] k (fun kq v1 v5 w' => ∃ (x1_1 : Int) (x5_1 : Int), v1 = .int .i64 x1_1 ∧ v5 = .int .i64 x5_1 ∧ Aside0 (laws_heldStepS.l0 kq l0 x1_1 x5_1 = some r) ∧ Aside0 (kq ≤ k) ∧ Drawn0 w w')
  case atStart => exact ⟨(a1), (0), (by first | rfl | (simp; done) | (simp [*]; done)), (by first | rfl | (simp; done) | (simp [*]; done)), H', ⟨Nat.le_refl _⟩, by repeat (first | exact Drawn0.refl _ | apply Drawn0.step)⟩
  case round =>
    clear H'
    try clear p2
    obtain ⟨x1_1, x5_1, rfl, rfl, HA, HK1, ⟨m1, rfl⟩⟩ := hrel
    cases gk with
    | zero => exact absurd HA.out (by simp [laws_heldStepS.l0])
    | succ k1 =>
      have H := HA.out
      clear HA
      simp only [laws_heldStepS.l0] at H
      by_cases c3 : x5_1 < (l0.length : Int)
      · rw [if_pos c3] at H
        have c3b0 : decide (x5_1 < (l0.length : Int)) = true := decide_eq_true c3
        clear c3
        by_cases c4 : 0 ≤ x5_1
        · rw [if_pos c4] at H
          have c4b0 : decide (0 ≤ x5_1) = true := decide_eq_true c4
          clear c4
          by_cases c5 : ((rd_T59 l0 x5_1).f0) = x1_1
          · rw [if_pos c5] at H
            have c5b0 : (((rd_T59 l0 x5_1).f0) == x1_1) = true := beq_iff_eq.mpr c5
            have c5b1 : (((rd_T59 l0 x5_1).f0) != x1_1) = false := bne_eq_false_iff_eq.mpr c5
            clear c5
            by_cases c6 : ((rd_T59 l0 x5_1).f1.f0) = (wrap64 (x1_1 + 1))
            · rw [if_pos c6] at H
              have c6b0 : (((rd_T59 l0 x5_1).f1.f0) == (wrap64 (x1_1 + 1))) = true := beq_iff_eq.mpr c6
              have c6b1 : (((rd_T59 l0 x5_1).f1.f0) != (wrap64 (x1_1 + 1))) = false := bne_eq_false_iff_eq.mpr c6
              clear c6
              by_cases c7 : ((rd_T59 l0 x5_1).f1.f1) = (wrap64 ((wrap64 (x1_1 + 1)) + 1))
              · rw [if_pos c7] at H
                have c7b0 : (((rd_T59 l0 x5_1).f1.f1) == (wrap64 ((wrap64 (x1_1 + 1)) + 1))) = true := beq_iff_eq.mpr c7
                have c7b1 : (((rd_T59 l0 x5_1).f1.f1) != (wrap64 ((wrap64 (x1_1 + 1)) + 1))) = false := bne_eq_false_iff_eq.mpr c7
                clear c7
                by_cases c8 : ((rd_T59 l0 x5_1).f1.f2) = (wrap64 ((wrap64 ((wrap64 (x1_1 + 1)) + 1)) + 1))
                · rw [if_pos c8] at H
                  have c8b0 : (((rd_T59 l0 x5_1).f1.f2) == (wrap64 ((wrap64 ((wrap64 (x1_1 + 1)) + 1)) + 1))) = true := beq_iff_eq.mpr c8
                  have c8b1 : (((rd_T59 l0 x5_1).f1.f2) != (wrap64 ((wrap64 ((wrap64 (x1_1 + 1)) + 1)) + 1))) = false := bne_eq_false_iff_eq.mpr c8
                  clear c8
                  by_cases c9 : ((rd_T59 l0 x5_1).f1.f3) = (wrap64 ((wrap64 ((wrap64 ((wrap64 (x1_1 + 1)) + 1)) + 1)) + 1))
                  · rw [if_pos c9] at H
                    have c9b0 : (((rd_T59 l0 x5_1).f1.f3) == (wrap64 ((wrap64 ((wrap64 ((wrap64 (x1_1 + 1)) + 1)) + 1)) + 1))) = true := beq_iff_eq.mpr c9
                    have c9b1 : (((rd_T59 l0 x5_1).f1.f3) != (wrap64 ((wrap64 ((wrap64 ((wrap64 (x1_1 + 1)) + 1)) + 1)) + 1))) = false := bne_eq_false_iff_eq.mpr c9
                    clear c9
                    replace H := Option.bind_eq_some_iff.mp H
                    obtain ⟨t46007, A100, H⟩ := H
                    replace H : (if t46007 < 0 then (some (-1)) else (laws_heldStepS.l0 k1 l0 t46007 (wrap64 (x5_1 + 1)))) = some r := H
                    have A10 := Aside0.mk A100
                    clear A100
                    by_cases c11 : t46007 < 0
                    · rw [if_pos c11] at H
                      have c11b0 : decide (t46007 < 0) = true := decide_eq_true c11
                      clear c11
                      obtain rfl := Option.some.inj H
                      have p46001 : 0 ≤ (x5_1 : Int) := of_decide_eq_true (by first | (with_reducible assumption) | assumption)
                      have q46001 : x5_1 < (l0.length : Int) := of_decide_eq_true (by first | (with_reducible assumption) | assumption)
                      obtain ⟨ad46001, A46001_5, c46001_5, e46001, hx46001_0, hx46001_1, hx46001_2, hx46001_3, hx46001_4, hx46001_5, hl46001_5, hi46001_5⟩ := at_T59 HR0.out x5_1 p46001 q46001
                      cases e46001
                      have HR46001_5 := Aside0.mk hi46001_5
                      have HC46001_5 := Aside0.mk hl46001_5
                      clear hi46001_5 hl46001_5
                      replace p46001 := eq_true p46001
                      replace q46001 := eq_true q46001
                      have p46002 : 0 ≤ (x5_1 : Int) := of_decide_eq_true (by first | (with_reducible assumption) | assumption)
                      have q46002 : x5_1 < (l0.length : Int) := of_decide_eq_true (by first | (with_reducible assumption) | assumption)
                      obtain ⟨ad46002, A46002_5, c46002_5, e46002, hx46002_0, hx46002_1, hx46002_2, hx46002_3, hx46002_4, hx46002_5, hl46002_5, hi46002_5⟩ := at_T59 HR0.out x5_1 p46002 q46002
                      obtain rfl : ad46001 = ad46002 := (by injection e46002)
                      have HR46002_5 := Aside0.mk hi46002_5
                      have HC46002_5 := Aside0.mk hl46002_5
                      clear hi46002_5 hl46002_5
                      replace p46002 := eq_true p46002
                      replace q46002 := eq_true q46002
                      have ea_ := Option.some.inj (hx46001_5.symm.trans hx46002_5)
                      injection ea_ with ea_ en_ ec_
                      subst ea_
                      subst ec_
                      clear en_
                      have p46003 : 0 ≤ (x5_1 : Int) := of_decide_eq_true (by first | (with_reducible assumption) | assumption)
                      have q46003 : x5_1 < (l0.length : Int) := of_decide_eq_true (by first | (with_reducible assumption) | assumption)
                      obtain ⟨ad46003, A46003_5, c46003_5, e46003, hx46003_0, hx46003_1, hx46003_2, hx46003_3, hx46003_4, hx46003_5, hl46003_5, hi46003_5⟩ := at_T59 HR0.out x5_1 p46003 q46003
                      obtain rfl : ad46001 = ad46003 := (by injection e46003)
                      have HR46003_5 := Aside0.mk hi46003_5
                      have HC46003_5 := Aside0.mk hl46003_5
                      clear hi46003_5 hl46003_5
                      replace p46003 := eq_true p46003
                      replace q46003 := eq_true q46003
                      have ea_ := Option.some.inj (hx46001_5.symm.trans hx46003_5)
                      injection ea_ with ea_ en_ ec_
                      subst ea_
                      subst ec_
                      clear en_
                      have p46004 : 0 ≤ (x5_1 : Int) := of_decide_eq_true (by first | (with_reducible assumption) | assumption)
                      have q46004 : x5_1 < (l0.length : Int) := of_decide_eq_true (by first | (with_reducible assumption) | assumption)
                      obtain ⟨ad46004, A46004_5, c46004_5, e46004, hx46004_0, hx46004_1, hx46004_2, hx46004_3, hx46004_4, hx46004_5, hl46004_5, hi46004_5⟩ := at_T59 HR0.out x5_1 p46004 q46004
                      obtain rfl : ad46001 = ad46004 := (by injection e46004)
                      have HR46004_5 := Aside0.mk hi46004_5
                      have HC46004_5 := Aside0.mk hl46004_5
                      clear hi46004_5 hl46004_5
                      replace p46004 := eq_true p46004
                      replace q46004 := eq_true q46004
                      have ea_ := Option.some.inj (hx46001_5.symm.trans hx46004_5)
                      injection ea_ with ea_ en_ ec_
                      subst ea_
                      subst ec_
                      clear en_
                      have p46005 : 0 ≤ (x5_1 : Int) := of_decide_eq_true (by first | (with_reducible assumption) | assumption)
                      have q46005 : x5_1 < (l0.length : Int) := of_decide_eq_true (by first | (with_reducible assumption) | assumption)
                      obtain ⟨ad46005, A46005_5, c46005_5, e46005, hx46005_0, hx46005_1, hx46005_2, hx46005_3, hx46005_4, hx46005_5, hl46005_5, hi46005_5⟩ := at_T59 HR0.out x5_1 p46005 q46005
                      obtain rfl : ad46001 = ad46005 := (by injection e46005)
                      have HR46005_5 := Aside0.mk hi46005_5
                      have HC46005_5 := Aside0.mk hl46005_5
                      clear hi46005_5 hl46005_5
                      replace p46005 := eq_true p46005
                      replace q46005 := eq_true q46005
                      have ea_ := Option.some.inj (hx46001_5.symm.trans hx46005_5)
                      injection ea_ with ea_ en_ ec_
                      subst ea_
                      subst ec_
                      clear en_
                      have p46006 : 0 ≤ (x5_1 : Int) := of_decide_eq_true (by first | (with_reducible assumption) | assumption)
                      have q46006 : x5_1 < (l0.length : Int) := of_decide_eq_true (by first | (with_reducible assumption) | assumption)
                      obtain ⟨ad46006, A46006_5, c46006_5, e46006, hx46006_0, hx46006_1, hx46006_2, hx46006_3, hx46006_4, hx46006_5, hl46006_5, hi46006_5⟩ := at_T59 HR0.out x5_1 p46006 q46006
                      obtain rfl : ad46001 = ad46006 := (by injection e46006)
                      have HR46006_5 := Aside0.mk hi46006_5
                      have HC46006_5 := Aside0.mk hl46006_5
                      clear hi46006_5 hl46006_5
                      replace p46006 := eq_true p46006
                      replace q46006 := eq_true q46006
                      have ea_ := Option.some.inj (hx46001_5.symm.trans hx46006_5)
                      injection ea_ with ea_ en_ ec_
                      subst ea_
                      subst ec_
                      clear en_
                      go_wp2_with (first | ((with_reducible refine gate_callee (f := 80) rfl ?_); refine goesL_ (some 67) rfl rfl Try.func80 (by kernel_rfl) rfl #[.slice A46001_5 ((rd_T59 l0 x5_1).f2).length c46001_5, .int .i64 (wrap64 ((wrap64 ((wrap64 ((wrap64 ((wrap64 (x1_1 + 1)) + 1)) + 1)) + 1)) + 1))] rfl (by (try simp only [List.map_toArray, List.map_cons, List.map_nil]); first | done | rfl | (simp only [List.length_drop, List.length_take]; rfl)) ?_; (with_reducible refine (laws_heldIntS.calls k1 _ _ ((rd_T59 l0 x5_1).f2) (wrap64 ((wrap64 ((wrap64 ((wrap64 ((wrap64 (x1_1 + 1)) + 1)) + 1)) + 1)) + 1)) t46007 _ ?side1 ?side2 A10.out).mono ?_); (case side1 => repeat (first | exact HR46006_5.out | (with_reducible refine Kd.C_alloc ?_ _) | (with_reducible refine Kd.C_drewN ?_ _) | (with_reducible refine Kd.C_drew ?_))); (case side2 => exact HC46006_5.out); rintro e w' ⟨rfl, ⟨nd, rfl⟩⟩; refine ⟨_, rfl, ?_⟩))
                      go_ret
                      exact ⟨by first | rfl | (simp; done) | (simp [*]; done), by repeat (first | exact Drawn0.refl _ | apply Drawn0.step)⟩
                    · rw [if_neg c11] at H
                      have c11b0 : decide (t46007 < 0) = false := decide_eq_false c11
                      clear c11
                      have H' := Aside0.mk H
                      clear H
                      have p46001 : 0 ≤ (x5_1 : Int) := of_decide_eq_true (by first | (with_reducible assumption) | assumption)
                      have q46001 : x5_1 < (l0.length : Int) := of_decide_eq_true (by first | (with_reducible assumption) | assumption)
                      obtain ⟨ad46001, A46001_5, c46001_5, e46001, hx46001_0, hx46001_1, hx46001_2, hx46001_3, hx46001_4, hx46001_5, hl46001_5, hi46001_5⟩ := at_T59 HR0.out x5_1 p46001 q46001
                      cases e46001
                      have HR46001_5 := Aside0.mk hi46001_5
                      have HC46001_5 := Aside0.mk hl46001_5
                      clear hi46001_5 hl46001_5
                      replace p46001 := eq_true p46001
                      replace q46001 := eq_true q46001
                      have p46002 : 0 ≤ (x5_1 : Int) := of_decide_eq_true (by first | (with_reducible assumption) | assumption)
                      have q46002 : x5_1 < (l0.length : Int) := of_decide_eq_true (by first | (with_reducible assumption) | assumption)
                      obtain ⟨ad46002, A46002_5, c46002_5, e46002, hx46002_0, hx46002_1, hx46002_2, hx46002_3, hx46002_4, hx46002_5, hl46002_5, hi46002_5⟩ := at_T59 HR0.out x5_1 p46002 q46002
                      obtain rfl : ad46001 = ad46002 := (by injection e46002)
                      have HR46002_5 := Aside0.mk hi46002_5
                      have HC46002_5 := Aside0.mk hl46002_5
                      clear hi46002_5 hl46002_5
                      replace p46002 := eq_true p46002
                      replace q46002 := eq_true q46002
                      have ea_ := Option.some.inj (hx46001_5.symm.trans hx46002_5)
                      injection ea_ with ea_ en_ ec_
                      subst ea_
                      subst ec_
                      clear en_
                      have p46003 : 0 ≤ (x5_1 : Int) := of_decide_eq_true (by first | (with_reducible assumption) | assumption)
                      have q46003 : x5_1 < (l0.length : Int) := of_decide_eq_true (by first | (with_reducible assumption) | assumption)
                      obtain ⟨ad46003, A46003_5, c46003_5, e46003, hx46003_0, hx46003_1, hx46003_2, hx46003_3, hx46003_4, hx46003_5, hl46003_5, hi46003_5⟩ := at_T59 HR0.out x5_1 p46003 q46003
                      obtain rfl : ad46001 = ad46003 := (by injection e46003)
                      have HR46003_5 := Aside0.mk hi46003_5
                      have HC46003_5 := Aside0.mk hl46003_5
                      clear hi46003_5 hl46003_5
                      replace p46003 := eq_true p46003
                      replace q46003 := eq_true q46003
                      have ea_ := Option.some.inj (hx46001_5.symm.trans hx46003_5)
                      injection ea_ with ea_ en_ ec_
                      subst ea_
                      subst ec_
                      clear en_
                      have p46004 : 0 ≤ (x5_1 : Int) := of_decide_eq_true (by first | (with_reducible assumption) | assumption)
                      have q46004 : x5_1 < (l0.length : Int) := of_decide_eq_true (by first | (with_reducible assumption) | assumption)
                      obtain ⟨ad46004, A46004_5, c46004_5, e46004, hx46004_0, hx46004_1, hx46004_2, hx46004_3, hx46004_4, hx46004_5, hl46004_5, hi46004_5⟩ := at_T59 HR0.out x5_1 p46004 q46004
                      obtain rfl : ad46001 = ad46004 := (by injection e46004)
                      have HR46004_5 := Aside0.mk hi46004_5
                      have HC46004_5 := Aside0.mk hl46004_5
                      clear hi46004_5 hl46004_5
                      replace p46004 := eq_true p46004
                      replace q46004 := eq_true q46004
                      have ea_ := Option.some.inj (hx46001_5.symm.trans hx46004_5)
                      injection ea_ with ea_ en_ ec_
                      subst ea_
                      subst ec_
                      clear en_
                      have p46005 : 0 ≤ (x5_1 : Int) := of_decide_eq_true (by first | (with_reducible assumption) | assumption)
                      have q46005 : x5_1 < (l0.length : Int) := of_decide_eq_true (by first | (with_reducible assumption) | assumption)
                      obtain ⟨ad46005, A46005_5, c46005_5, e46005, hx46005_0, hx46005_1, hx46005_2, hx46005_3, hx46005_4, hx46005_5, hl46005_5, hi46005_5⟩ := at_T59 HR0.out x5_1 p46005 q46005
                      obtain rfl : ad46001 = ad46005 := (by injection e46005)
                      have HR46005_5 := Aside0.mk hi46005_5
                      have HC46005_5 := Aside0.mk hl46005_5
                      clear hi46005_5 hl46005_5
                      replace p46005 := eq_true p46005
                      replace q46005 := eq_true q46005
                      have ea_ := Option.some.inj (hx46001_5.symm.trans hx46005_5)
                      injection ea_ with ea_ en_ ec_
                      subst ea_
                      subst ec_
                      clear en_
                      have p46006 : 0 ≤ (x5_1 : Int) := of_decide_eq_true (by first | (with_reducible assumption) | assumption)
                      have q46006 : x5_1 < (l0.length : Int) := of_decide_eq_true (by first | (with_reducible assumption) | assumption)
                      obtain ⟨ad46006, A46006_5, c46006_5, e46006, hx46006_0, hx46006_1, hx46006_2, hx46006_3, hx46006_4, hx46006_5, hl46006_5, hi46006_5⟩ := at_T59 HR0.out x5_1 p46006 q46006
                      obtain rfl : ad46001 = ad46006 := (by injection e46006)
                      have HR46006_5 := Aside0.mk hi46006_5
                      have HC46006_5 := Aside0.mk hl46006_5
                      clear hi46006_5 hl46006_5
                      replace p46006 := eq_true p46006
                      replace q46006 := eq_true q46006
                      have ea_ := Option.some.inj (hx46001_5.symm.trans hx46006_5)
                      injection ea_ with ea_ en_ ec_
                      subst ea_
                      subst ec_
                      clear en_
                      go_wp2_with (first | ((with_reducible refine gate_callee (f := 80) rfl ?_); refine goesL_ (some 67) rfl rfl Try.func80 (by kernel_rfl) rfl #[.slice A46001_5 ((rd_T59 l0 x5_1).f2).length c46001_5, .int .i64 (wrap64 ((wrap64 ((wrap64 ((wrap64 ((wrap64 (x1_1 + 1)) + 1)) + 1)) + 1)) + 1))] rfl (by (try simp only [List.map_toArray, List.map_cons, List.map_nil]); first | done | rfl | (simp only [List.length_drop, List.length_take]; rfl)) ?_; (with_reducible refine (laws_heldIntS.calls k1 _ _ ((rd_T59 l0 x5_1).f2) (wrap64 ((wrap64 ((wrap64 ((wrap64 ((wrap64 (x1_1 + 1)) + 1)) + 1)) + 1)) + 1)) t46007 _ ?side1 ?side2 A10.out).mono ?_); (case side1 => repeat (first | exact HR46006_5.out | (with_reducible refine Kd.C_alloc ?_ _) | (with_reducible refine Kd.C_drewN ?_ _) | (with_reducible refine Kd.C_drew ?_))); (case side2 => exact HC46006_5.out); rintro e w' ⟨rfl, ⟨nd, rfl⟩⟩; refine ⟨_, rfl, ?_⟩))
                      go_roundg k1
                      case measure => have := HK1.out; omega
                      case rel => exact ⟨(t46007), (wrap64 (x5_1 + 1)), (by first | rfl | (simp; done) | (simp [*]; done)), (by first | rfl | (simp; done) | (simp [*]; done)), H', ⟨by have := HK1.out; omega⟩, by repeat (first | exact Drawn0.refl _ | apply Drawn0.step)⟩
                  · rw [if_neg c9] at H
                    have c9b0 : (((rd_T59 l0 x5_1).f1.f3) == (wrap64 ((wrap64 ((wrap64 ((wrap64 (x1_1 + 1)) + 1)) + 1)) + 1))) = false := beq_eq_false_iff_ne.mpr c9
                    have c9b1 : (((rd_T59 l0 x5_1).f1.f3) != (wrap64 ((wrap64 ((wrap64 ((wrap64 (x1_1 + 1)) + 1)) + 1)) + 1))) = true := bne_iff_ne.mpr c9
                    obtain rfl := Option.some.inj H
                    have p46001 : 0 ≤ (x5_1 : Int) := of_decide_eq_true (by first | (with_reducible assumption) | assumption)
                    have q46001 : x5_1 < (l0.length : Int) := of_decide_eq_true (by first | (with_reducible assumption) | assumption)
                    obtain ⟨ad46001, A46001_5, c46001_5, e46001, hx46001_0, hx46001_1, hx46001_2, hx46001_3, hx46001_4, hx46001_5, hl46001_5, hi46001_5⟩ := at_T59 HR0.out x5_1 p46001 q46001
                    cases e46001
                    have HR46001_5 := Aside0.mk hi46001_5
                    have HC46001_5 := Aside0.mk hl46001_5
                    clear hi46001_5 hl46001_5
                    replace p46001 := eq_true p46001
                    replace q46001 := eq_true q46001
                    have p46002 : 0 ≤ (x5_1 : Int) := of_decide_eq_true (by first | (with_reducible assumption) | assumption)
                    have q46002 : x5_1 < (l0.length : Int) := of_decide_eq_true (by first | (with_reducible assumption) | assumption)
                    obtain ⟨ad46002, A46002_5, c46002_5, e46002, hx46002_0, hx46002_1, hx46002_2, hx46002_3, hx46002_4, hx46002_5, hl46002_5, hi46002_5⟩ := at_T59 HR0.out x5_1 p46002 q46002
                    obtain rfl : ad46001 = ad46002 := (by injection e46002)
                    have HR46002_5 := Aside0.mk hi46002_5
                    have HC46002_5 := Aside0.mk hl46002_5
                    clear hi46002_5 hl46002_5
                    replace p46002 := eq_true p46002
                    replace q46002 := eq_true q46002
                    have ea_ := Option.some.inj (hx46001_5.symm.trans hx46002_5)
                    injection ea_ with ea_ en_ ec_
                    subst ea_
                    subst ec_
                    clear en_
                    have p46003 : 0 ≤ (x5_1 : Int) := of_decide_eq_true (by first | (with_reducible assumption) | assumption)
                    have q46003 : x5_1 < (l0.length : Int) := of_decide_eq_true (by first | (with_reducible assumption) | assumption)
                    obtain ⟨ad46003, A46003_5, c46003_5, e46003, hx46003_0, hx46003_1, hx46003_2, hx46003_3, hx46003_4, hx46003_5, hl46003_5, hi46003_5⟩ := at_T59 HR0.out x5_1 p46003 q46003
                    obtain rfl : ad46001 = ad46003 := (by injection e46003)
                    have HR46003_5 := Aside0.mk hi46003_5
                    have HC46003_5 := Aside0.mk hl46003_5
                    clear hi46003_5 hl46003_5
                    replace p46003 := eq_true p46003
                    replace q46003 := eq_true q46003
                    have ea_ := Option.some.inj (hx46001_5.symm.trans hx46003_5)
                    injection ea_ with ea_ en_ ec_
                    subst ea_
                    subst ec_
                    clear en_
                    have p46004 : 0 ≤ (x5_1 : Int) := of_decide_eq_true (by first | (with_reducible assumption) | assumption)
                    have q46004 : x5_1 < (l0.length : Int) := of_decide_eq_true (by first | (with_reducible assumption) | assumption)
                    obtain ⟨ad46004, A46004_5, c46004_5, e46004, hx46004_0, hx46004_1, hx46004_2, hx46004_3, hx46004_4, hx46004_5, hl46004_5, hi46004_5⟩ := at_T59 HR0.out x5_1 p46004 q46004
                    obtain rfl : ad46001 = ad46004 := (by injection e46004)
                    have HR46004_5 := Aside0.mk hi46004_5
                    have HC46004_5 := Aside0.mk hl46004_5
                    clear hi46004_5 hl46004_5
                    replace p46004 := eq_true p46004
                    replace q46004 := eq_true q46004
                    have ea_ := Option.some.inj (hx46001_5.symm.trans hx46004_5)
                    injection ea_ with ea_ en_ ec_
                    subst ea_
                    subst ec_
                    clear en_
                    have p46005 : 0 ≤ (x5_1 : Int) := of_decide_eq_true (by first | (with_reducible assumption) | assumption)
                    have q46005 : x5_1 < (l0.length : Int) := of_decide_eq_true (by first | (with_reducible assumption) | assumption)
                    obtain ⟨ad46005, A46005_5, c46005_5, e46005, hx46005_0, hx46005_1, hx46005_2, hx46005_3, hx46005_4, hx46005_5, hl46005_5, hi46005_5⟩ := at_T59 HR0.out x5_1 p46005 q46005
                    obtain rfl : ad46001 = ad46005 := (by injection e46005)
                    have HR46005_5 := Aside0.mk hi46005_5
                    have HC46005_5 := Aside0.mk hl46005_5
                    clear hi46005_5 hl46005_5
                    replace p46005 := eq_true p46005
                    replace q46005 := eq_true q46005
                    have ea_ := Option.some.inj (hx46001_5.symm.trans hx46005_5)
                    injection ea_ with ea_ en_ ec_
                    subst ea_
                    subst ec_
                    clear en_
                    go_wp2
                    go_ret
                    exact ⟨by first | rfl | (simp; done) | (simp [*]; done), by repeat (first | exact Drawn0.refl _ | apply Drawn0.step)⟩
                · rw [if_neg c8] at H
                  have c8b0 : (((rd_T59 l0 x5_1).f1.f2) == (wrap64 ((wrap64 ((wrap64 (x1_1 + 1)) + 1)) + 1))) = false := beq_eq_false_iff_ne.mpr c8
                  have c8b1 : (((rd_T59 l0 x5_1).f1.f2) != (wrap64 ((wrap64 ((wrap64 (x1_1 + 1)) + 1)) + 1))) = true := bne_iff_ne.mpr c8
                  obtain rfl := Option.some.inj H
                  have p46001 : 0 ≤ (x5_1 : Int) := of_decide_eq_true (by first | (with_reducible assumption) | assumption)
                  have q46001 : x5_1 < (l0.length : Int) := of_decide_eq_true (by first | (with_reducible assumption) | assumption)
                  obtain ⟨ad46001, A46001_5, c46001_5, e46001, hx46001_0, hx46001_1, hx46001_2, hx46001_3, hx46001_4, hx46001_5, hl46001_5, hi46001_5⟩ := at_T59 HR0.out x5_1 p46001 q46001
                  cases e46001
                  have HR46001_5 := Aside0.mk hi46001_5
                  have HC46001_5 := Aside0.mk hl46001_5
                  clear hi46001_5 hl46001_5
                  replace p46001 := eq_true p46001
                  replace q46001 := eq_true q46001
                  have p46002 : 0 ≤ (x5_1 : Int) := of_decide_eq_true (by first | (with_reducible assumption) | assumption)
                  have q46002 : x5_1 < (l0.length : Int) := of_decide_eq_true (by first | (with_reducible assumption) | assumption)
                  obtain ⟨ad46002, A46002_5, c46002_5, e46002, hx46002_0, hx46002_1, hx46002_2, hx46002_3, hx46002_4, hx46002_5, hl46002_5, hi46002_5⟩ := at_T59 HR0.out x5_1 p46002 q46002
                  obtain rfl : ad46001 = ad46002 := (by injection e46002)
                  have HR46002_5 := Aside0.mk hi46002_5
                  have HC46002_5 := Aside0.mk hl46002_5
                  clear hi46002_5 hl46002_5
                  replace p46002 := eq_true p46002
                  replace q46002 := eq_true q46002
                  have ea_ := Option.some.inj (hx46001_5.symm.trans hx46002_5)
                  injection ea_ with ea_ en_ ec_
                  subst ea_
                  subst ec_
                  clear en_
                  have p46003 : 0 ≤ (x5_1 : Int) := of_decide_eq_true (by first | (with_reducible assumption) | assumption)
                  have q46003 : x5_1 < (l0.length : Int) := of_decide_eq_true (by first | (with_reducible assumption) | assumption)
                  obtain ⟨ad46003, A46003_5, c46003_5, e46003, hx46003_0, hx46003_1, hx46003_2, hx46003_3, hx46003_4, hx46003_5, hl46003_5, hi46003_5⟩ := at_T59 HR0.out x5_1 p46003 q46003
                  obtain rfl : ad46001 = ad46003 := (by injection e46003)
                  have HR46003_5 := Aside0.mk hi46003_5
                  have HC46003_5 := Aside0.mk hl46003_5
                  clear hi46003_5 hl46003_5
                  replace p46003 := eq_true p46003
                  replace q46003 := eq_true q46003
                  have ea_ := Option.some.inj (hx46001_5.symm.trans hx46003_5)
                  injection ea_ with ea_ en_ ec_
                  subst ea_
                  subst ec_
                  clear en_
                  have p46004 : 0 ≤ (x5_1 : Int) := of_decide_eq_true (by first | (with_reducible assumption) | assumption)
                  have q46004 : x5_1 < (l0.length : Int) := of_decide_eq_true (by first | (with_reducible assumption) | assumption)
                  obtain ⟨ad46004, A46004_5, c46004_5, e46004, hx46004_0, hx46004_1, hx46004_2, hx46004_3, hx46004_4, hx46004_5, hl46004_5, hi46004_5⟩ := at_T59 HR0.out x5_1 p46004 q46004
                  obtain rfl : ad46001 = ad46004 := (by injection e46004)
                  have HR46004_5 := Aside0.mk hi46004_5
                  have HC46004_5 := Aside0.mk hl46004_5
                  clear hi46004_5 hl46004_5
                  replace p46004 := eq_true p46004
                  replace q46004 := eq_true q46004
                  have ea_ := Option.some.inj (hx46001_5.symm.trans hx46004_5)
                  injection ea_ with ea_ en_ ec_
                  subst ea_
                  subst ec_
                  clear en_
                  go_wp2
                  go_ret
                  exact ⟨by first | rfl | (simp; done) | (simp [*]; done), by repeat (first | exact Drawn0.refl _ | apply Drawn0.step)⟩
              · rw [if_neg c7] at H
                have c7b0 : (((rd_T59 l0 x5_1).f1.f1) == (wrap64 ((wrap64 (x1_1 + 1)) + 1))) = false := beq_eq_false_iff_ne.mpr c7
                have c7b1 : (((rd_T59 l0 x5_1).f1.f1) != (wrap64 ((wrap64 (x1_1 + 1)) + 1))) = true := bne_iff_ne.mpr c7
                obtain rfl := Option.some.inj H
                have p46001 : 0 ≤ (x5_1 : Int) := of_decide_eq_true (by first | (with_reducible assumption) | assumption)
                have q46001 : x5_1 < (l0.length : Int) := of_decide_eq_true (by first | (with_reducible assumption) | assumption)
                obtain ⟨ad46001, A46001_5, c46001_5, e46001, hx46001_0, hx46001_1, hx46001_2, hx46001_3, hx46001_4, hx46001_5, hl46001_5, hi46001_5⟩ := at_T59 HR0.out x5_1 p46001 q46001
                cases e46001
                have HR46001_5 := Aside0.mk hi46001_5
                have HC46001_5 := Aside0.mk hl46001_5
                clear hi46001_5 hl46001_5
                replace p46001 := eq_true p46001
                replace q46001 := eq_true q46001
                have p46002 : 0 ≤ (x5_1 : Int) := of_decide_eq_true (by first | (with_reducible assumption) | assumption)
                have q46002 : x5_1 < (l0.length : Int) := of_decide_eq_true (by first | (with_reducible assumption) | assumption)
                obtain ⟨ad46002, A46002_5, c46002_5, e46002, hx46002_0, hx46002_1, hx46002_2, hx46002_3, hx46002_4, hx46002_5, hl46002_5, hi46002_5⟩ := at_T59 HR0.out x5_1 p46002 q46002
                obtain rfl : ad46001 = ad46002 := (by injection e46002)
                have HR46002_5 := Aside0.mk hi46002_5
                have HC46002_5 := Aside0.mk hl46002_5
                clear hi46002_5 hl46002_5
                replace p46002 := eq_true p46002
                replace q46002 := eq_true q46002
                have ea_ := Option.some.inj (hx46001_5.symm.trans hx46002_5)
                injection ea_ with ea_ en_ ec_
                subst ea_
                subst ec_
                clear en_
                have p46003 : 0 ≤ (x5_1 : Int) := of_decide_eq_true (by first | (with_reducible assumption) | assumption)
                have q46003 : x5_1 < (l0.length : Int) := of_decide_eq_true (by first | (with_reducible assumption) | assumption)
                obtain ⟨ad46003, A46003_5, c46003_5, e46003, hx46003_0, hx46003_1, hx46003_2, hx46003_3, hx46003_4, hx46003_5, hl46003_5, hi46003_5⟩ := at_T59 HR0.out x5_1 p46003 q46003
                obtain rfl : ad46001 = ad46003 := (by injection e46003)
                have HR46003_5 := Aside0.mk hi46003_5
                have HC46003_5 := Aside0.mk hl46003_5
                clear hi46003_5 hl46003_5
                replace p46003 := eq_true p46003
                replace q46003 := eq_true q46003
                have ea_ := Option.some.inj (hx46001_5.symm.trans hx46003_5)
                injection ea_ with ea_ en_ ec_
                subst ea_
                subst ec_
                clear en_
                go_wp2
                go_ret
                exact ⟨by first | rfl | (simp; done) | (simp [*]; done), by repeat (first | exact Drawn0.refl _ | apply Drawn0.step)⟩
            · rw [if_neg c6] at H
              have c6b0 : (((rd_T59 l0 x5_1).f1.f0) == (wrap64 (x1_1 + 1))) = false := beq_eq_false_iff_ne.mpr c6
              have c6b1 : (((rd_T59 l0 x5_1).f1.f0) != (wrap64 (x1_1 + 1))) = true := bne_iff_ne.mpr c6
              obtain rfl := Option.some.inj H
              have p46001 : 0 ≤ (x5_1 : Int) := of_decide_eq_true (by first | (with_reducible assumption) | assumption)
              have q46001 : x5_1 < (l0.length : Int) := of_decide_eq_true (by first | (with_reducible assumption) | assumption)
              obtain ⟨ad46001, A46001_5, c46001_5, e46001, hx46001_0, hx46001_1, hx46001_2, hx46001_3, hx46001_4, hx46001_5, hl46001_5, hi46001_5⟩ := at_T59 HR0.out x5_1 p46001 q46001
              cases e46001
              have HR46001_5 := Aside0.mk hi46001_5
              have HC46001_5 := Aside0.mk hl46001_5
              clear hi46001_5 hl46001_5
              replace p46001 := eq_true p46001
              replace q46001 := eq_true q46001
              have p46002 : 0 ≤ (x5_1 : Int) := of_decide_eq_true (by first | (with_reducible assumption) | assumption)
              have q46002 : x5_1 < (l0.length : Int) := of_decide_eq_true (by first | (with_reducible assumption) | assumption)
              obtain ⟨ad46002, A46002_5, c46002_5, e46002, hx46002_0, hx46002_1, hx46002_2, hx46002_3, hx46002_4, hx46002_5, hl46002_5, hi46002_5⟩ := at_T59 HR0.out x5_1 p46002 q46002
              obtain rfl : ad46001 = ad46002 := (by injection e46002)
              have HR46002_5 := Aside0.mk hi46002_5
              have HC46002_5 := Aside0.mk hl46002_5
              clear hi46002_5 hl46002_5
              replace p46002 := eq_true p46002
              replace q46002 := eq_true q46002
              have ea_ := Option.some.inj (hx46001_5.symm.trans hx46002_5)
              injection ea_ with ea_ en_ ec_
              subst ea_
              subst ec_
              clear en_
              go_wp2
              go_ret
              exact ⟨by first | rfl | (simp; done) | (simp [*]; done), by repeat (first | exact Drawn0.refl _ | apply Drawn0.step)⟩
          · rw [if_neg c5] at H
            have c5b0 : (((rd_T59 l0 x5_1).f0) == x1_1) = false := beq_eq_false_iff_ne.mpr c5
            have c5b1 : (((rd_T59 l0 x5_1).f0) != x1_1) = true := bne_iff_ne.mpr c5
            obtain rfl := Option.some.inj H
            have p46001 : 0 ≤ (x5_1 : Int) := of_decide_eq_true (by first | (with_reducible assumption) | assumption)
            have q46001 : x5_1 < (l0.length : Int) := of_decide_eq_true (by first | (with_reducible assumption) | assumption)
            obtain ⟨ad46001, A46001_5, c46001_5, e46001, hx46001_0, hx46001_1, hx46001_2, hx46001_3, hx46001_4, hx46001_5, hl46001_5, hi46001_5⟩ := at_T59 HR0.out x5_1 p46001 q46001
            cases e46001
            have HR46001_5 := Aside0.mk hi46001_5
            have HC46001_5 := Aside0.mk hl46001_5
            clear hi46001_5 hl46001_5
            replace p46001 := eq_true p46001
            replace q46001 := eq_true q46001
            go_wp2
            go_ret
            exact ⟨by first | rfl | (simp; done) | (simp [*]; done), by repeat (first | exact Drawn0.refl _ | apply Drawn0.step)⟩
        · rw [if_neg c4] at H
          exact absurd H (by simp)
      · rw [if_neg c3] at H
        have c3b0 : decide (x5_1 < (l0.length : Int)) = false := decide_eq_false c3
        clear c3
        obtain rfl := Option.some.inj H
        go_wp2
        go_ret
        exact ⟨by first | rfl | (simp; done) | (simp [*]; done), by repeat (first | exact Drawn0.refl _ | apply Drawn0.step)⟩

end Go.Proofs.Ytgfjccegehnjcaa.Q

/- What an argument's reading as data tells: numbers, bools, slices and structs of them, by their kinds. -/
namespace Go.Proofs.Ytgfjccegehnjcaa.Q
open Go.RowKit Go.Proofs.YtgfjccegehnjcaaW.PrintWords Go.Proofs.YtgfjccegehnjcaaW.PrintLast Go.Proofs.YtgfjccegehnjcaaW.PrintMore
attribute [local go_sem] max2_int min2_int max_two min_two max_three min_three max_four min_four
set_option linter.unusedVariables false
set_option linter.unusedSimpArgs false
open Go.ChangeShapes Go.WideShapes Go.Deep

/-- A number of 64 bits. -/
def I64 (n : Int) : Prop := -9223372036854775808 ≤ n ∧ n ≤ 9223372036854775807
theorem i64_of (n : Int) (h : (Lit.int .i64 n).wf = true) : I64 n := by
  simp only [Lit.wf, Bool.and_eq_true, decide_eq_true_eq] at h
  have e1 : IntKind.min .i64 = -9223372036854775808 := by decide
  have e2 : IntKind.max .i64 = 9223372036854775807 := by decide
  unfold I64
  omega
/-- Whatever reads at type t as data is a y of this kind, of which Q holds. -/
def Opens {α : Type} (P : Program) (t : TypeId) (d : Kd α) (Q : α → Prop) : Prop :=
  ∀ (H : Type) (enc : TypeId × Value → H) (w : World) (fuel : Nat) (cs : List Value) (x : DataW H × List MemPlace),
    DataW.trod enc P w 0 (fun _ => true) true fuel t cs = some x → ∃ y : α, d.K w y cs ∧ Q y
section
variable {P : Program} {t : TypeId} {α β : Type}
theorem opens_i64 (ht : P.underlying t = some (.int .i64)) : Opens P t (Kd.int .i64) I64 := by
  intro H enc w fuel cs x h
  obtain ⟨n, rfl, _, hw⟩ := DataW.trod_int ht h
  exact ⟨n, rfl, i64_of n hw⟩
theorem opens_bool (ht : P.underlying t = some .bool) : Opens P t Kd.bool (fun _ => True) := by
  intro H enc w fuel cs x h
  obtain ⟨b, rfl, _⟩ := DataW.trod_bool ht h
  exact ⟨b, rfl, trivial⟩
theorem opens_sliceB {e : TypeId} {d : Kd α} {Q : α → Prop} (ht : P.underlying t = some (.slice e)) (hc : P.cellsOf e = d.sz) (ho : Opens P e d Q) :
    Opens P t (Kd.slice e d) (fun l => (∀ x ∈ l, Q x) ∧ l.length ≤ 9223372036854775807) := by
  intro H enc w fuel cs x h
  rcases open_slice ht h with ⟨rfl, _⟩ | ⟨a, len, cap, m, n, D, Pl, rfl, _, hl, hm, hmm, _, hi⟩
  · exact ⟨[], ⟨none, 0, rfl, Nat.le_refl _, rfl, by simp, fun h0 => absurd h0 (by simp)⟩, ⟨fun x hx => absurd hx (by simp), by simp⟩⟩
  · have hmc : m = cap := by simpa using hmm
    subst hmc
    have each : ∀ i, i < len → ∃ y : α, (∃ c, c.length = d.sz ∧ d.K w y c ∧ ∀ j u, c[j]? = some u → w.cell? (a.add (i * d.sz + j)) = some u) ∧ Q y := by
      intro i hil
      obtain ⟨cs', hcs, htr⟩ := hi i (by omega)
      rw [hc] at hcs
      obtain ⟨_, hcl, hat⟩ := World.cells?_some hcs
      obtain ⟨y, hK, hQ⟩ := ho H enc w n cs' _ htr
      refine ⟨y, ⟨cs', hcl, hK, fun j u hu => ?_⟩, hQ⟩
      have hj : j < d.sz := by rw [← hcl]; exact (List.getElem?_eq_some_iff.1 hu).1
      rw [← Go.Deep.add_add, hat j hj, hu]
    have hY : ∃ ys : List α, ys.length = len ∧ ∀ i, i < len → ∃ y, ys[i]? = some y ∧ (∃ c, c.length = d.sz ∧ d.K w y c ∧ ∀ j u, c[j]? = some u → w.cell? (a.add (i * d.sz + j)) = some u) ∧ Q y := by
      have key : ∀ q, q ≤ len → ∃ ys : List α, ys.length = q ∧ ∀ i, i < q → ∃ y, ys[i]? = some y ∧ (∃ c, c.length = d.sz ∧ d.K w y c ∧ ∀ j u, c[j]? = some u → w.cell? (a.add (i * d.sz + j)) = some u) ∧ Q y := by
        intro q
        induction q with
        | zero => intro _; exact ⟨[], rfl, fun i hi' => absurd hi' (by omega)⟩
        | succ q ih =>
          intro hq
          obtain ⟨ys, hyl, hys⟩ := ih (by omega)
          obtain ⟨y, hy⟩ := each q (by omega)
          refine ⟨ys ++ [y], by simp [hyl], fun i hi' => ?_⟩
          by_cases e : i = q
          · subst e
            exact ⟨y, by rw [List.getElem?_append_right (by omega)]; simp [hyl], hy⟩
          · obtain ⟨z, hz, hz2⟩ := hys i (by omega)
            exact ⟨z, by rw [List.getElem?_append_left (by omega)]; exact hz, hz2⟩
      exact key len (Nat.le_refl _)
    obtain ⟨ys, hyl, hys⟩ := hY
    refine ⟨ys, ⟨some a, m, by rw [hyl], by omega, rfl, by rw [hyl]; simp only [maxLen] at hm; omega, fun _ => ⟨a, rfl, fun j p hj => ?_⟩⟩, ⟨fun x hx => ?_, by rw [hyl]; simp only [maxLen] at hm; omega⟩⟩
    · have hjl : j < len := by rw [← hyl]; exact (List.getElem?_eq_some_iff.1 hj).1
      obtain ⟨y, hy, hc2, _⟩ := hys j hjl
      rw [hy] at hj
      obtain rfl := Option.some.inj hj
      exact hc2
    · obtain ⟨j, hj, rfl⟩ := List.getElem_of_mem hx
      obtain ⟨y, hy, _, hq⟩ := hys j (by omega)
      rw [List.getElem?_eq_getElem hj] at hy
      obtain rfl := Option.some.inj hy
      exact hq
theorem opens_slice {e : TypeId} {d : Kd α} {Q : α → Prop} (ht : P.underlying t = some (.slice e)) (hc : P.cellsOf e = d.sz) (ho : Opens P e d Q) :
    Opens P t (Kd.slice e d) (fun l => ∀ x ∈ l, Q x) := by
  intro H enc w fuel cs x h
  obtain ⟨y, h1, h2, _⟩ := opens_sliceB ht hc ho H enc w fuel cs x h
  exact ⟨y, h1, h2⟩
/-- Fields in line, from the cell 'off' on. -/
def OpensF (P : Program) (fs : List Field) (off : Nat) (d : Kd α) (Q : α → Prop) : Prop :=
  ∀ (H : Type) (enc : TypeId × Value → H) (w : World) (n : Nat) (cs : List Value), cs.length = off + d.sz →
    (∀ f ∈ fs, ∃ x, DataW.trod enc P w 0 (fun _ => true) true n f.type ((cs.drop f.offset).take (P.cellsOf f.type)) = some x) → ∃ y : α, d.K w y (cs.drop off) ∧ Q y
theorem opensF_one {f : Field} {off : Nat} {d : Kd α} {Q : α → Prop} (ho : f.offset = off) (hc : P.cellsOf f.type = d.sz) (h : Opens P f.type d Q) : OpensF P [f] off d Q := by
  intro H enc w n cs hl hf
  obtain ⟨x, hx⟩ := hf f (by simp)
  rw [ho, hc, List.take_of_length_le (by rw [List.length_drop]; omega)] at hx
  exact h H enc w n _ _ hx
theorem opensF_cons {f : Field} {fs : List Field} {off : Nat} {d : Kd α} {Q : α → Prop} {d' : Kd β} {Q' : β → Prop} (ho : f.offset = off) (hc : P.cellsOf f.type = d.sz) (h : Opens P f.type d Q) (h' : OpensF P fs (off + d.sz) d' Q') :
    OpensF P (f :: fs) off (Kd.pair d d') (fun p => Q p.1 ∧ Q' p.2) := by
  intro H enc w n cs hl hf
  have hl' : cs.length = off + (d.sz + d'.sz) := hl
  obtain ⟨x, hx⟩ := hf f (by simp)
  rw [ho, hc] at hx
  obtain ⟨y, hK, hQ⟩ := h H enc w n _ _ hx
  obtain ⟨y', hK', hQ'⟩ := h' H enc w n cs (by omega) (fun g hg => hf g (by simp [hg]))
  refine ⟨(y, y'), ⟨(cs.drop off).take d.sz, cs.drop (off + d.sz), ?_, hK, hK'⟩, hQ, hQ'⟩
  rw [← List.drop_drop, List.take_append_drop]
theorem opens_struct {fs : Array Field} {d : Kd α} {Q : α → Prop} (ht : P.underlying t = some (.struct fs)) (hc : P.cellsOf t = d.sz) (h : OpensF P fs.toList 0 d Q) : Opens P t d Q := by
  intro H enc w fuel cs x hx
  obtain ⟨xs, n, _, _, hcl, hxl, hg⟩ := DataW.trod_struct ht hx
  obtain ⟨y, hK, hQ⟩ := h H enc w n cs (by omega) (fun f hf => by
    obtain ⟨i, hi, rfl⟩ := List.getElem_of_mem hf
    have hi' : i < fs.size := by simpa using hi
    have h1 := hg i (fs.toList[i]) (by simp [hi'])
    rw [List.getElem?_eq_getElem (by omega)] at h1
    exact ⟨_, h1⟩)
  exact ⟨y, by simpa using hK, hQ⟩
theorem opens_iso {d : Kd α} {Q : α → Prop} (f : β → α) (g : α → β) (hfg : ∀ a, f (g a) = a) (h : Opens P t d Q) : Opens P t (Kd.iso d f) (fun b => Q (f b)) := by
  intro H enc w fuel cs x hx
  obtain ⟨y, hK, hQ⟩ := h H enc w fuel cs x hx
  refine ⟨g y, ?_, ?_⟩
  · show d.K w (f (g y)) cs
    rw [hfg]; exact hK
  · show Q (f (g y))
    rw [hfg]; exact hQ
end
end Go.Proofs.Ytgfjccegehnjcaa.Q

/- What is known of structs that came in. -/
namespace Go.Proofs.Ytgfjccegehnjcaa.Q
open Go.RowKit Go.Proofs.YtgfjccegehnjcaaW.PrintWords Go.Proofs.YtgfjccegehnjcaaW.PrintLast Go.Proofs.YtgfjccegehnjcaaW.PrintMore
attribute [local go_sem] max2_int min2_int max_two min_two max_three min_three max_four min_four
set_option linter.unusedVariables false
set_option linter.unusedSimpArgs false
def wf71 (x : S71) : Prop := I64 x.f0 ∧ I64 x.f1 ∧ I64 x.f2 ∧ I64 x.f3
theorem o71 : Opens Try.prog 71 k71 wf71 :=
  opens_iso (fun x : S71 => (x.f0, x.f1, x.f2, x.f3)) (fun p => (⟨p.1, p.2.1, p.2.2.1, p.2.2.2⟩ : S71)) (fun _ => rfl) (opens_struct Try.underlying71 (by kernel_rfl) (opensF_cons rfl (by kernel_rfl) (opens_i64 Try.underlying3) (opensF_cons rfl (by kernel_rfl) (opens_i64 Try.underlying3) (opensF_cons rfl (by kernel_rfl) (opens_i64 Try.underlying3) (opensF_one rfl (by kernel_rfl) (opens_i64 Try.underlying3))))))
def wf74 (x : S74) : Prop := I64 x.f0 ∧ I64 x.f1
theorem o74 : Opens Try.prog 74 k74 wf74 :=
  opens_iso (fun x : S74 => (x.f0, x.f1)) (fun p => (⟨p.1, p.2⟩ : S74)) (fun _ => rfl) (opens_struct Try.underlying74 (by kernel_rfl) (opensF_cons rfl (by kernel_rfl) (opens_i64 Try.underlying3) (opensF_one rfl (by kernel_rfl) (opens_i64 Try.underlying3))))
def wg98 (x : S98) : Prop := I64 x.f0 ∧ wf71 x.f1 ∧ ((∀ y ∈ x.f2, I64 y) ∧ x.f2.length ≤ 9223372036854775807)
theorem og98 : Opens Try.prog 98 k98 wg98 :=
  opens_iso (fun x : S98 => (x.f0, x.f1, x.f2)) (fun p => (⟨p.1, p.2.1, p.2.2⟩ : S98)) (fun _ => rfl) (opens_struct Try.underlying98 (by kernel_rfl) (opensF_cons rfl (by kernel_rfl) (opens_i64 Try.underlying3) (opensF_cons rfl (by kernel_rfl) o71 (opensF_one rfl (by kernel_rfl) (opens_sliceB Try.underlying57 (by kernel_rfl) (opens_i64 Try.underlying3))))))
end Go.Proofs.Ytgfjccegehnjcaa.Q

/- Plain words: numbers that do not wrap, elements of lists, rounds that are enough. -/
namespace Go.Proofs.Ytgfjccegehnjcaa.Pure
open Go.RowKit Go.Proofs.Ytgfjccegehnjcaa.Q Go.Proofs.YtgfjccegehnjcaaW.PrintWords Go.Proofs.YtgfjccegehnjcaaW.PrintLast Go.Proofs.YtgfjccegehnjcaaW.PrintMore
set_option linter.unusedVariables false
set_option linter.unusedSimpArgs false

theorem w64 {x : Int} (h1 : -9223372036854775808 ≤ x) (h2 : x ≤ 9223372036854775807) : wrap64 x = x := by unfold wrap64; omega
theorem w64n (n : Nat) (h : n < 9223372036854775807) : wrap64 ((n : Int) + 1) = ((n + 1 : Nat) : Int) := by unfold wrap64; omega
theorem rd_nat (l : List Int) (i : Nat) (h : i < l.length) : rd l (i : Int) = l[i] := by simp [rd, h]
theorem ev_const {α : Type} {o : Option α} {r : α} (h : o = some r) : Ev (fun _ => o) r := ⟨0, fun _ _ => h⟩
theorem ev_bind {α β : Type} {g : Nat → Option α} {f : Nat → α → Option β} {a : α} {r : β} (h : Ev g a) (k : Ev (fun n => f n a) r) : Ev (fun n => (g n).bind (f n)) r := Ev.bind h k
theorem ev_now {α β : Type} {o : Option α} {f : Nat → α → Option β} {a : α} {r : β} (h : o = some a) (k : Ev (fun n => f n a) r) : Ev (fun n => o.bind (f n)) r := Ev.bind (ev_const h) k
theorem ev_pos {α : Type} {c : Prop} [Decidable c] {f g : Nat → Option α} {r : α} (h : c) (k : Ev f r) : Ev (fun n => if c then f n else g n) r := by
  simpa [h] using k
theorem ev_neg {α : Type} {c : Prop} [Decidable c] {f g : Nat → Option α} {r : α} (h : ¬ c) (k : Ev g r) : Ev (fun n => if c then f n else g n) r := by
  simpa [h] using k
/-- The same, from some number of rounds on: for loops in loops. -/
theorem ev_up {σ ρ : Type} (n : Nat) (L : Nat → Nat → σ → Option ρ) (Inv : Nat → σ → Prop) (F : Nat → σ → ρ)
    (step : ∀ i s, i < n → Inv i s → Ev (fun k => L k i s) (F i s) ∨ ∃ s', (∀ k, L (k + 1) i s = L k (i + 1) s') ∧ Inv (i + 1) s' ∧ F (i + 1) s' = F i s)
    (last : ∀ s, Inv n s → Ev (fun k => L k n s) (F n s)) :
    ∀ d i s, i + d = n → Inv i s → Ev (fun k => L k i s) (F i s) := by
  intro d
  induction d with
  | zero =>
    intro i s hi hinv
    have : i = n := by omega
    subst this
    exact last s hinv
  | succ d ih =>
    intro i s hi hinv
    rcases step i s (by omega) hinv with h | ⟨s', h, hi', hF⟩
    · exact h
    · rw [← hF]
      exact Ev.step h (ih (i + 1) s' (by omega) hi')
theorem ev_up2 {σ ρ : Type} (n : Nat) (L : Nat → Nat → σ → Option ρ) (Inv : Nat → σ → Prop) (F : Nat → σ → ρ)
    (step : ∀ i s, i < n → Inv i s → Ev (fun k => L k i s) (F i s) ∨ ∃ s', (∀ r, Ev (fun k => L k (i + 1) s') r → Ev (fun k => L k i s) r) ∧ Inv (i + 1) s' ∧ F (i + 1) s' = F i s)
    (last : ∀ s, Inv n s → Ev (fun k => L k n s) (F n s)) :
    ∀ d i s, i + d = n → Inv i s → Ev (fun k => L k i s) (F i s) := by
  intro d
  induction d with
  | zero =>
    intro i s hi hinv
    have : i = n := by omega
    subst this
    exact last s hinv
  | succ d ih =>
    intro i s hi hinv
    rcases step i s (by omega) hinv with h | ⟨s', h, hi', hF⟩
    · exact h
    · rw [← hF]
      exact h _ (ih (i + 1) s' (by omega) hi')
theorem ev_val {α : Type} {g : Nat → Option α} {r r' : α} (h : Ev g r) (e : r = r') : Ev g r' := e ▸ h
theorem take_set {α : Type} (s : List α) (i : Nat) (c : α) (h : i < s.length) : (s.set i c).take (i + 1) = s.take i ++ [c] := by
  rw [List.take_succ_eq_append_getElem (by simpa using h), List.take_set_of_le (Nat.le_refl i)]
  simp

/- Copies of an image: they are the image; marks on an image. -/

theorem toIntS_ev (l : List Int) (hl : l.length ≤ 2000000) : Ev (fun k => laws_toIntS.f k l) l := by
  have key := ev_up l.length (fun k i s => laws_toIntS.l0 k l s (i : Int)) (fun i s => s.length = l.length ∧ s.take i = l.take i) (fun i s => l)
    (by
      intro i s hi hs
      refine .inr ⟨s.set i l[i], fun k => ?_, ⟨by simpa using hs.1, ?_⟩, rfl⟩
      · simp only [laws_toIntS.l0]
        rw [if_pos (by omega), if_pos (by omega), rd_nat l i hi, if_pos (by omega), w64n i (by omega), Int.toNat_natCast]
      · rw [take_set s i _ (by omega), hs.2, List.take_succ_eq_append_getElem hi])
    (by
      intro s hs
      refine Ev.step (f := fun _ => some s) (fun k => ?_) (ev_const ?_)
      · simp only [laws_toIntS.l0]
        rw [if_neg (by omega)]
      · rw [← List.take_length (l := s), hs.1, hs.2, List.take_length])
    l.length 0 (List.replicate l.length 0) (by omega) ⟨by simp, by simp⟩
  unfold laws_toIntS.f
  refine Ev.congr (fun k => ?_) key
  rw [if_pos (by omega), if_pos (by omega)]
  simp
theorem eqIntS_ev (l : List Int) (hl : l.length ≤ 1000000000000) : Ev (fun k => laws_eqIntS.f k l l) true := by
  have key := ev_up l.length (fun k i (_ : Unit) => laws_eqIntS.l0 k l l (i : Int)) (fun _ _ => True) (fun _ _ => true)
    (by
      intro i s hi _
      refine .inr ⟨(), fun k => ?_, trivial, rfl⟩
      simp only [laws_eqIntS.l0]
      rw [if_pos (by omega), if_pos (by omega), if_pos (by omega), if_pos trivial, w64n i (by omega)])
    (by
      intro s _
      refine Ev.step (f := fun _ => some true) (fun k => ?_) (Ev.now true)
      simp only [laws_eqIntS.l0]
      rw [if_neg (by omega)])
    l.length 0 () (by omega) trivial
  unfold laws_eqIntS.f
  exact ev_pos rfl (by simpa using key)
theorem szIntS_eq (l : List Int) (n : Int) (h0 : 0 ≤ n) (h1 : n ≤ 1048576) (hl : l.length ≤ 9223372036854775807) :
    (l.length ≤ 1048576 ∧ n - (l.length : Int) ≥ 0 ∧ laws_szIntS.f l n = some (n - (l.length : Int))) ∨ laws_szIntS.f l n = some (-1) := by
  unfold laws_szIntS.f
  by_cases c : (l.length : Int) ≤ n
  · left
    rw [w64 (by omega) (by omega), if_neg (by omega)]
    exact ⟨by omega, by omega, rfl⟩
  · right
    rw [w64 (by omega) (by omega), if_pos (by omega)]

/- Marks on numbers: what is written into a list, and read again. -/

def markedI (m : Nat) (n : Int) : List Int := (List.range m).map (fun j => n + ((j : Nat) : Int))
theorem markedI_length (m : Nat) (n : Int) : (markedI m n).length = m := by simp [markedI]
theorem markIntS_is (l : List Int) (n : Int) (hl : l.length ≤ 1000000000) (h0 : 0 ≤ n) (h1 : n ≤ 1000000000000) : Ev (fun k => laws_markIntS.f k l n) (n + (l.length : Int), markedI l.length n) := by
  have key := ev_up l.length (fun k i (s : List Int) => laws_markIntS.l0 k s (n + (i : Int)) (i : Int)) (fun i s => s.length = l.length ∧ s.take i = markedI i n) (fun _ _ => (n + (l.length : Int), markedI l.length n))
    (by
      intro i s hi hs
      refine .inr ⟨s.set i (n + (i : Int)), fun k => ?_, ⟨by simpa using hs.1, by rw [take_set s i _ (by omega), hs.2]; unfold markedI; rw [List.range_succ, List.map_append]; rfl⟩, rfl⟩
      simp only [laws_markIntS.l0]
      rw [if_pos (by omega), if_pos (by omega), w64n i (by omega), w64 (x := n + (i : Int) + 1) (by omega) (by omega), Int.toNat_natCast, show n + (i : Int) + 1 = n + ((i + 1 : Nat) : Int) by omega])
    (by
      intro s hs
      refine Ev.step (f := fun _ => some (n + (l.length : Int), s)) (fun k => ?_) (ev_const ?_)
      · simp only [laws_markIntS.l0]
        rw [if_neg (by omega)]
      · rw [← hs.2, ← hs.1, List.take_length])
    l.length 0 l (by omega) ⟨rfl, by simp [markedI]⟩
  unfold laws_markIntS.f
  simpa using key
theorem heldIntS_ev (m : Nat) (n : Int) (hl : m ≤ 1000000000) (h0 : 0 ≤ n) (h1 : n ≤ 1000000000000) : Ev (fun k => laws_heldIntS.f k (markedI m n) n) (n + (m : Int)) := by
  have key := ev_up m (fun k i (_ : Unit) => laws_heldIntS.l0 k (markedI m n) (n + (i : Int)) (i : Int)) (fun _ _ => True) (fun _ _ => n + (m : Int))
    (by
      intro i s hi _
      right
      refine ⟨(), fun k => ?_, trivial, rfl⟩
      simp only [laws_heldIntS.l0]
      have hr : rd (markedI m n) (i : Int) = n + (i : Int) := by
        rw [rd_nat _ i (by rw [markedI_length]; omega)]
        simp [markedI]
      rw [if_pos (by rw [markedI_length]; omega), if_pos (by omega), hr, w64n i (by omega), w64 (x := n + (i : Int) + 1) (by omega) (by omega)]
      have e : n + (i : Int) + 1 = n + ((i + 1 : Nat) : Int) := by omega
      rw [e]
      simp)
    (by
      intro s _
      refine Ev.step (f := fun _ => some (n + (m : Int))) (fun k => ?_) (ev_const rfl)
      simp only [laws_heldIntS.l0]
      rw [if_neg (by rw [markedI_length]; omega)])
    m 0 () (by omega) trivial
  unfold laws_heldIntS.f
  simpa using key

/- Steps: sizes, copies, marks. -/

theorem szStep_eq (a x y w h : Int) (d : List Int) (n : Int) (h0 : 0 ≤ n) (h1 : n ≤ 1048576) (hl : d.length ≤ 9223372036854775807) :
    (d.length ≤ 1048576 ∧ n - (d.length : Int) ≥ 0 ∧ laws_szStep.f a x y w h d n = some (n - (d.length : Int))) ∨ laws_szStep.f a x y w h d n = some (-1) := by
  unfold laws_szStep.f
  rcases szIntS_eq d n h0 h1 hl with ⟨e1, e2, e3⟩ | e
  · left
    rw [e3]
    simp only [Option.bind_some]
    rw [if_neg (by omega)]
    exact ⟨e1, e2, rfl⟩
  · right
    rw [e]
    simp only [Option.bind_some]
    rw [if_pos (by omega)]
theorem toStep_ev (a x y w h : Int) (d : List Int) (hl : d.length ≤ 2000000) : Ev (fun k => laws_toStep.f k a x y w h d) (a, x, y, w, h, d) := by
  unfold laws_toStep.f
  exact ev_now (show laws_toBox.f x y w h = some (x, y, w, h) from rfl) (ev_bind (toIntS_ev d hl) (Ev.now _))
theorem eqStep_ev (a x y w h : Int) (d : List Int) (hl : d.length ≤ 1000000000000) : Ev (fun k => laws_eqStep.f k a x y w h d a x y w h d) true := by
  unfold laws_eqStep.f
  have hb : laws_eqBox.f x y w h x y w h = some true := by
    unfold laws_eqBox.f
    rw [if_pos rfl, if_pos rfl, if_pos rfl, if_pos rfl]
  exact ev_pos rfl (ev_now hb (ev_pos rfl (ev_bind (eqIntS_ev d hl) (ev_pos rfl (Ev.now _)))))

/- Rows of steps: sizes, copies, equality, marks. -/

abbrev RowI := S59
abbrev RowL := S98
def cRow (s : RowL) : RowI := ⟨s.f0, ⟨s.f1.f0, s.f1.f1, s.f1.f2, s.f1.f3⟩, s.f2⟩
def lenI (s : RowI) : Nat := s.f2.length
def lenL (s : RowL) : Nat := s.f2.length
def sumL (l : List RowL) : Nat := (l.map lenL).sum
theorem rdI_nat (l : List RowI) (i : Nat) (h : i < l.length) : rd_T59 l (i : Int) = l[i] := by simp [rd_T59, h]
theorem rdL_nat' (l : List RowL) (i : Nat) (h : i < l.length) : rd_T98 l (i : Int) = l[i] := by simp [rd_T98, h]
theorem sz_loop (l : List RowL) (hl : l.length ≤ 9223372036854775806) (hb : ∀ s ∈ l, lenL s ≤ 9223372036854775807) : ∀ (r i : Nat) (n : Int), i + r = l.length → 0 ≤ n → n ≤ 1048576 →
    ∃ m : Int, Ev (fun k => laws_szStepS.l0 k l n (i : Int)) m ∧ (m < 0 ∨ (0 ≤ m ∧ m ≤ n - (sumL (l.drop i) : Int)))
  | 0, i, n, hi, h0, h1 => by
    refine ⟨n, Ev.step (f := fun _ => some n) (fun k => by simp only [laws_szStepS.l0]; rw [if_neg (by omega)]) (Ev.now _), .inr ⟨h0, ?_⟩⟩
    rw [List.drop_of_length_le (by omega)]
    simp [sumL]
  | r + 1, i, n, hi, h0, h1 => by
    have hlt : i < l.length := by omega
    have hsum : (sumL (l.drop i) : Int) = (lenL l[i] : Int) + (sumL (l.drop (i + 1)) : Int) := by
      rw [List.drop_eq_getElem_cons hlt]
      simp only [sumL, List.map_cons, List.sum_cons]
      omega
    rcases szStep_eq l[i].f0 l[i].f1.f0 l[i].f1.f1 l[i].f1.f2 l[i].f1.f3 l[i].f2 n h0 h1 (hb _ (List.getElem_mem hlt)) with ⟨e1, e2, e3⟩ | e
    · obtain ⟨m, r1, r2⟩ := sz_loop l hl hb r (i + 1) (n - (l[i].f2.length : Int)) (by omega) (by omega) (by omega)
      refine ⟨m, Ev.step (f := fun k => (laws_szStep.f l[i].f0 l[i].f1.f0 l[i].f1.f1 l[i].f1.f2 l[i].f1.f3 l[i].f2 n).bind fun t => if t < 0 then some (-1) else laws_szStepS.l0 k l t ((i + 1 : Nat) : Int)) (fun k => ?_) (ev_now e3 (ev_neg (by omega) r1)), ?_⟩
      · simp only [laws_szStepS.l0]
        rw [if_pos (by omega), if_pos (by omega), rdL_nat' l i hlt, w64n i (by omega)]
      · have hlen : (lenL l[i] : Int) = (l[i].f2.length : Int) := rfl
        omega
    · refine ⟨-1, Ev.step (f := fun k => (laws_szStep.f l[i].f0 l[i].f1.f0 l[i].f1.f1 l[i].f1.f2 l[i].f1.f3 l[i].f2 n).bind fun t => if t < 0 then some (-1) else laws_szStepS.l0 k l t ((i + 1 : Nat) : Int)) (fun k => ?_) (ev_now e (ev_pos (by omega) (Ev.now _))), .inl (by omega)⟩
      simp only [laws_szStepS.l0]
      rw [if_pos (by omega), if_pos (by omega), rdL_nat' l i hlt, w64n i (by omega)]
theorem szRow_ev (l : List RowL) (hl : l.length ≤ 9223372036854775807) (hb : ∀ s ∈ l, lenL s ≤ 9223372036854775807) (n : Int) (h0 : 0 ≤ n) (h1 : n ≤ 1048576) :
    ∃ m : Int, Ev (fun k => laws_szStepS.f k l n) m ∧ (m < 0 ∨ (0 ≤ m ∧ m ≤ n ∧ l.length ≤ 1048576 ∧ sumL l ≤ 1048576)) := by
  unfold laws_szStepS.f
  rw [w64 (x := n - (l.length : Int)) (by omega) (by omega)]
  by_cases c : n - (l.length : Int) < 0
  · exact ⟨-1, ev_pos c (Ev.now _), .inl (by omega)⟩
  · obtain ⟨m, r1, r2⟩ := sz_loop l (by omega) hb l.length 0 (n - (l.length : Int)) (by omega) (by omega) (by omega)
    rw [List.drop_zero] at r2
    exact ⟨m, ev_neg c r1, by omega⟩
theorem len_sum : ∀ (l : List RowL) (s : RowL), s ∈ l → lenL s ≤ sumL l
  | x :: l, s, h => by
    rcases List.mem_cons.1 h with rfl | h
    · simp [sumL]
    · have := len_sum l s h
      simp only [sumL, List.map_cons, List.sum_cons] at this ⊢
      omega
theorem toRow_ev (l : List RowL) (hl : l.length ≤ 2000000) (hb : ∀ s ∈ l, lenL s ≤ 2000000) : Ev (fun k => laws_toStepS.f k l) (l.map cRow) := by
  unfold laws_toStepS.f
  refine ev_pos (by omega) (ev_pos (by omega) ?_)
  have key := ev_up2 l.length (fun k i (s : List RowI) => laws_toStepS.l0 k l s (i : Int)) (fun i s => s.length = l.length ∧ s.take i = (l.take i).map cRow) (fun _ _ => l.map cRow)
    (by
      intro i s hi ⟨h1, h2⟩
      right
      have hc := toStep_ev l[i].f0 l[i].f1.f0 l[i].f1.f1 l[i].f1.f2 l[i].f1.f3 l[i].f2 (hb _ (List.getElem_mem hi))
      refine ⟨s.set i (cRow l[i]), fun res hres => ?_, ⟨by rw [List.length_set]; exact h1, by rw [take_set s i _ (by omega), h2, List.take_succ_eq_append_getElem hi, List.map_append]; rfl⟩, rfl⟩
      refine Ev.step (f := fun k => (laws_toStep.f k l[i].f0 l[i].f1.f0 l[i].f1.f1 l[i].f1.f2 l[i].f1.f3 l[i].f2).bind fun t => if (i : Int) < (s.length : Int) then laws_toStepS.l0 k l (s.set i (⟨t.1, ⟨t.2.1, t.2.2.1, t.2.2.2.1, t.2.2.2.2.1⟩, t.2.2.2.2.2⟩ : RowI)) ((i + 1 : Nat) : Int) else none) (fun k => ?_) (ev_bind hc (ev_pos (by omega) hres))
      simp only [laws_toStepS.l0]
      rw [if_pos (by omega), if_pos (by omega), rdL_nat' l i hi, w64n i (by omega), Int.toNat_natCast])
    (by
      intro s ⟨h1, h2⟩
      refine Ev.step (f := fun _ => some s) (fun k => by simp only [laws_toStepS.l0]; rw [if_neg (by omega)]) (ev_const ?_)
      rw [List.take_length, ← h1, List.take_length] at h2
      rw [h2])
    l.length 0 (List.replicate ((l.length : Int) : Int).toNat z59) (by omega) ⟨by simp, by simp⟩
  exact key
theorem eqRow_ev (l : List RowI) (hl : l.length ≤ 1000000000) (hb : ∀ s ∈ l, lenI s ≤ 1000000000000) : Ev (fun k => laws_eqStepS.f k l l) true := by
  unfold laws_eqStepS.f
  refine ev_pos rfl ?_
  have key := ev_up2 l.length (fun k i (_ : Unit) => laws_eqStepS.l0 k l l (i : Int)) (fun _ _ => True) (fun _ _ => true)
    (by
      intro i _ hi _
      right
      have hc := eqStep_ev l[i].f0 l[i].f1.f0 l[i].f1.f1 l[i].f1.f2 l[i].f1.f3 l[i].f2 (hb _ (List.getElem_mem hi))
      refine ⟨(), fun res hres => ?_, trivial, rfl⟩
      refine Ev.step (f := fun k => (laws_eqStep.f k l[i].f0 l[i].f1.f0 l[i].f1.f1 l[i].f1.f2 l[i].f1.f3 l[i].f2 l[i].f0 l[i].f1.f0 l[i].f1.f1 l[i].f1.f2 l[i].f1.f3 l[i].f2).bind fun t => if t = true then laws_eqStepS.l0 k l l ((i + 1 : Nat) : Int) else some false) (fun k => ?_) (ev_bind hc (ev_pos rfl hres))
      simp only [laws_eqStepS.l0]
      rw [if_pos (by omega), if_pos (by omega), if_pos (by omega), rdI_nat l i hi, w64n i (by omega)])
    (by
      intro _ _
      exact Ev.step (f := fun _ => some true) (fun k => by simp only [laws_eqStepS.l0]; rw [if_neg (by omega)]) (Ev.now _))
    l.length 0 () (by omega) trivial
  exact key
def totI (l : List RowI) : Nat := (l.map fun s => lenI s + 5).sum
theorem tot_c : ∀ (l : List RowL), totI (l.map cRow) = sumL l + 5 * l.length
  | [] => by simp [totI, sumL]
  | x :: l => by
    have h := tot_c l
    simp only [totI, sumL, List.map_cons, List.sum_cons, List.length_cons] at h ⊢
    rw [h]
    show lenL x + 5 + _ = _
    omega

/- Rows of steps that are marked, and whether they hold their marks. -/

def mS : List RowI → Int → List RowI
  | [], _ => []
  | x :: r, n => ⟨n, ⟨n + 1, n + 2, n + 3, n + 4⟩, markedI x.f2.length (n + 5)⟩ :: mS r (n + 5 + (x.f2.length : Int))
theorem totI_cons (x : RowI) (r : List RowI) : (totI (x :: r) : Int) = (x.f2.length : Int) + 5 + (totI r : Int) := by simp [totI, lenI]
theorem marks5 (n : Int) (h0 : 0 ≤ n) (h1 : n ≤ 1000000000) : wrap64 (n + 1) = n + 1 ∧ wrap64 (wrap64 (n + 1) + 1) = n + 2 ∧ wrap64 (wrap64 (wrap64 (n + 1) + 1) + 1) = n + 3 ∧ wrap64 (wrap64 (wrap64 (wrap64 (n + 1) + 1) + 1) + 1) = n + 4 ∧ wrap64 (wrap64 (wrap64 (wrap64 (wrap64 (n + 1) + 1) + 1) + 1) + 1) = n + 5 := by
  have e1 : wrap64 (n + 1) = n + 1 := w64 (by omega) (by omega)
  have e2 : wrap64 (n + 1 + 1) = n + 2 := by rw [w64 (by omega) (by omega)]; omega
  have e3 : wrap64 (n + 2 + 1) = n + 3 := by rw [w64 (by omega) (by omega)]; omega
  have e4 : wrap64 (n + 3 + 1) = n + 4 := by rw [w64 (by omega) (by omega)]; omega
  have e5 : wrap64 (n + 4 + 1) = n + 5 := by rw [w64 (by omega) (by omega)]; omega
  refine ⟨e1, ?_, ?_, ?_, ?_⟩
  · rw [e1, e2]
  · rw [e1, e2, e3]
  · rw [e1, e2, e3, e4]
  · rw [e1, e2, e3, e4, e5]
theorem mark_all : ∀ (rest pre : List RowI) (n : Int), 0 ≤ n → n + (totI rest : Int) ≤ 1000000000 → pre.length + rest.length ≤ 1000000000 →
    Ev (fun k => laws_markStepS.l0 k (pre ++ rest) n (pre.length : Int)) (n + (totI rest : Int), pre ++ mS rest n)
  | [], pre, n, h0, h1, hl => by
    refine Ev.step (f := fun _ => some (n, pre ++ [])) (fun k => ?_) (ev_val (Ev.now _) (by simp [totI, mS]))
    simp only [laws_markStepS.l0]
    rw [if_neg (by simp)]
  | x :: rest, pre, n, h0, h1, hl => by
    have htot := totI_cons x rest
    have hM := markIntS_is x.f2 (n + 5) (by omega) (by omega) (by omega)
    obtain ⟨e1, e2, e3, e4, e5⟩ := marks5 n h0 (by omega)
    simp only [List.length_cons] at hl
    have ih := mark_all rest (pre ++ [(⟨n, ⟨n + 1, n + 2, n + 3, n + 4⟩, markedI x.f2.length (n + 5)⟩ : RowI)]) (n + 5 + (x.f2.length : Int)) (by omega) (by omega) (by simp; omega)
    rw [List.length_append, List.length_singleton, show n + 5 + (x.f2.length : Int) + (totI rest : Int) = n + (totI (x :: rest) : Int) by omega, List.append_assoc _ _ (mS rest _)] at ih
    have hrd : rd_T59 (pre ++ x :: rest) (pre.length : Int) = x := by simp [rd_T59]
    have hset : ∀ c : RowI, (pre ++ x :: rest).set pre.length c = (pre ++ [c]) ++ rest := by intro c; simp
    refine Ev.step (f := fun k => (laws_markIntS.f k x.f2 (n + 5)).bind fun t => laws_markStepS.l0 k ((pre ++ [(⟨n, ⟨n + 1, n + 2, n + 3, n + 4⟩, t.2⟩ : RowI)]) ++ rest) (t.1) ((pre.length + 1 : Nat) : Int)) (fun k => ?_) (ev_bind hM ih)
    simp only [laws_markStepS.l0]
    rw [if_pos (by simp; omega), if_pos (by omega), hrd, e5, e4, e3, e2, e1, w64n _ (by omega)]
    simp only [Int.toNat_natCast, hset]
theorem markS_is (l : List RowI) (n : Int) (h0 : 0 ≤ n) (h1 : n + (totI l : Int) ≤ 1000000000) (hl : l.length ≤ 1000000000) : Ev (fun k => laws_markStepS.f k l n) (n + (totI l : Int), mS l n) := by
  unfold laws_markStepS.f
  exact mark_all l [] n h0 h1 (by simpa using hl)
theorem held_all : ∀ (rest : List RowI) (pre : List RowI) (n : Int), 0 ≤ n → n + (totI rest : Int) ≤ 1000000000 → pre.length + rest.length ≤ 1000000000 →
    Ev (fun k => laws_heldStepS.l0 k (pre ++ mS rest n) n (pre.length : Int)) (n + (totI rest : Int))
  | [], pre, n, h0, h1, hl => by
    refine Ev.step (f := fun _ => some n) (fun k => ?_) (ev_val (Ev.now _) (by simp [totI]))
    simp only [laws_heldStepS.l0]
    rw [if_neg (by simp [mS])]
  | x :: rest, pre, n, h0, h1, hl => by
    have htot := totI_cons x rest
    have hH := heldIntS_ev x.f2.length (n + 5) (by omega) (by omega) (by omega)
    obtain ⟨e1, e2, e3, e4, e5⟩ := marks5 n h0 (by omega)
    simp only [List.length_cons] at hl
    have ih := held_all rest (pre ++ [(⟨n, ⟨n + 1, n + 2, n + 3, n + 4⟩, markedI x.f2.length (n + 5)⟩ : RowI)]) (n + 5 + (x.f2.length : Int)) (by omega) (by omega) (by simp; omega)
    rw [List.length_append, List.length_singleton, show n + 5 + (x.f2.length : Int) + (totI rest : Int) = n + (totI (x :: rest) : Int) by omega, List.append_assoc _ _ (mS rest _)] at ih
    rw [mS]
    have hrd : rd_T59 (pre ++ (⟨n, ⟨n + 1, n + 2, n + 3, n + 4⟩, markedI x.f2.length (n + 5)⟩ : RowI) :: mS rest (n + 5 + (x.f2.length : Int))) (pre.length : Int) = (⟨n, ⟨n + 1, n + 2, n + 3, n + 4⟩, markedI x.f2.length (n + 5)⟩ : RowI) := by simp [rd_T59]
    refine Ev.step (f := fun k => (laws_heldIntS.f k (markedI x.f2.length (n + 5)) (n + 5)).bind fun t => if t < 0 then some (-1) else laws_heldStepS.l0 k (pre ++ (⟨n, ⟨n + 1, n + 2, n + 3, n + 4⟩, markedI x.f2.length (n + 5)⟩ : RowI) :: mS rest (n + 5 + (x.f2.length : Int))) t ((pre.length + 1 : Nat) : Int)) (fun k => ?_) (ev_bind hH (ev_neg (by omega) ih))
    simp only [laws_heldStepS.l0]
    rw [if_pos (by simp; omega), if_pos (by omega), hrd, e5, e4, e3, e2, e1, if_pos rfl, if_pos rfl, if_pos rfl, if_pos rfl, if_pos rfl, w64n _ (by omega)]
theorem heldS_is (l : List RowI) (n : Int) (h0 : 0 ≤ n) (h1 : n + (totI l : Int) ≤ 1000000000) (hl : l.length ≤ 1000000000) : Ev (fun k => laws_heldStepS.f k (mS l n) n) (n + (totI l : Int)) := by
  unfold laws_heldStepS.f
  exact held_all l [] n h0 h1 (by simpa using hl)
theorem tot_sub : ∀ (m : List RowI) (B : Nat), (∀ s ∈ m, lenI s ≤ B) → totI m ≤ m.length * (B + 5)
  | [], B, h => by simp [totI]
  | x :: m, B, h => by
    have h1 := tot_sub m B (fun s hs => h s (List.mem_cons_of_mem _ hs))
    have h2 := h x List.mem_cons_self
    have h3 : totI (x :: m) = lenI x + 5 + totI m := by simp [totI]
    rw [h3, List.length_cons, Nat.add_mul]
    omega
end Go.Proofs.Ytgfjccegehnjcaa.Pure

/- impl.cancelling: how many steps at the beginning cancel each other. -/
namespace Go.Proofs.Ytgfjccegehnjcaa.Q
open Go.RowKit Go.Proofs.YtgfjccegehnjcaaW.PrintWords Go.Proofs.YtgfjccegehnjcaaW.PrintLast Go.Proofs.YtgfjccegehnjcaaW.PrintMore
attribute [local go_sem] max2_int min2_int max_two min_two max_three min_three max_four min_four
set_option linter.unusedVariables false
set_option linter.unusedSimpArgs false
open Go.Proofs.Ytgfjccegehnjcaa.Pure

def manyOf (k : Int) : Nat := if k = 0 then 2 else if k = 2 then 2 else if k = 1 then 4 else 0
def cancelN (l : List S59) : Nat := if manyOf (rd_T59 l 0).f0 = 0 then 0 else if l.length < manyOf (rd_T59 l 0).f0 then 0 else if (l.take (manyOf (rd_T59 l 0).f0)).any (otherKind l) = true then 0 else manyOf (rd_T59 l 0).f0
def impl_cancelling.f (l0 : List S59) : Option Int := if 0 < l0.length then some (cancelN l0) else none
set_option maxHeartbeats 2000000 in
set_option maxRecDepth 100000 in
theorem canc_other (l : List S59) (A : Option Addr) (c : Nat) (hl : 0 < l.length) (hk : manyOf (rd_T59 l 0).f0 = 0) (w : World) (hr : Kd.C k59 w A l.length l) :
    Calls Try.prog 71 #[.slice A l.length c] w fun e w' => e = .returned (.int .i64 0) ∧ Below w.heap.size w w' := by
  have HB0 := Aside0.mk (Below.refl w.heap.size w)
  have hu := Try.underlying53
  have hus := Try.underlying59
  obtain ⟨ad, A6, c6, e, hx0, _, _, _, _, _, _, _⟩ := at_T59 hr 0 (by omega) (by omega)
  subst e
  rw [add_zero6] at hx0
  generalize (rd_T59 l 0).f0 = k0 at *
  have c0 : ¬ k0 = 0 := fun h => by unfold manyOf at hk; rw [if_pos h] at hk; omega
  have c2 : ¬ k0 = 2 := fun h => by unfold manyOf at hk; rw [if_neg c0, if_pos h] at hk; omega
  have c1 : ¬ k0 = 1 := fun h => by unfold manyOf at hk; rw [if_neg c0, if_neg c2, if_pos h] at hk; omega
  have d0 : decide (k0 = 0) = false := decide_eq_false c0
  have d2 : decide (k0 = 2) = false := decide_eq_false c2
  have d1 : decide (k0 = 1) = false := decide_eq_false c1
  have b0 : (k0 == 0) = false := by simpa using c0
  have b2 : (k0 == 2) = false := by simpa using c2
  have b1 : (k0 == 1) = false := by simpa using c1
  have HX := Aside0.mk hx0
  clear hr hk hx0
  go_enter Try.func71, Try.ntmps71
  go_wp2_with (first
    | ((with_reducible refine gate_dst (N := 1) rfl ?_); refine box_event ?hg (N := 1) ?hd (cs := #[.slice (some ad) l.length c]) (t := 53) ?hr ?_; (case hd => rfl); (case hg => rfl); (case hr => first | (go_simp; done) | (go_simp; rfl)); intro g1 hg_ w1 hbox hb; have HB1 := Aside0.mk (below_then HB0.out HB0.out.size hb); have K1 := Aside0.mk hbox; have Gg1 := Aside0.mk (show w.heap.size ≤ g1 from by rw [hg_]; exact HB0.out.size); have kc0 : w1.cell? ⟨g1, 0, none⟩ = some (.slice (some ad) l.length c) := (blk_cell K1.out 0).trans rfl; have hz : w1.cell? ad = some (.int .i64 k0) := (hb.cell (World.block_lt_of_cell? _ _ HX.out)).trans HX.out; clear hbox hb hg_))
  go_ret
  exact ⟨rfl, HB1.out⟩
set_option maxHeartbeats 2000000 in
set_option maxRecDepth 100000 in
theorem canc_short (l : List S59) (A : Option Addr) (c : Nat) (hl : 0 < l.length) (hm0 : (l.length < 2 ∧ ((rd_T59 l 0).f0 = 0 ∨ (rd_T59 l 0).f0 = 2)) ∨ (l.length < 4 ∧ (rd_T59 l 0).f0 = 1)) (w : World) (hr : Kd.C k59 w A l.length l) :
    Calls Try.prog 71 #[.slice A l.length c] w fun e w' => e = .returned (.int .i64 0) ∧ Below w.heap.size w w' := by
  have HB0 := Aside0.mk (Below.refl w.heap.size w)
  have hu := Try.underlying53
  have hus := Try.underlying59
  obtain ⟨ad, A6, c6, e, hx0, _, _, _, _, _, _, _⟩ := at_T59 hr 0 (by omega) (by omega)
  subst e
  rw [add_zero6] at hx0
  generalize (rd_T59 l 0).f0 = k0 at *
  have HX := Aside0.mk hx0
  clear hr hx0
  have hq3 : (l.length < 2 ∧ k0 = 0) ∨ (l.length < 2 ∧ k0 = 2) ∨ (l.length < 4 ∧ k0 = 1) := by omega
  clear hm0
  rcases hq3 with ⟨hlt, rfl⟩ | ⟨hlt, rfl⟩ | ⟨hlt, rfl⟩
  · have hgt : decide ((2 : Int) > (l.length : Int)) = true := decide_eq_true (by omega)
    have hgt2 : decide ((l.length : Int) < (2 : Int)) = true := decide_eq_true (by omega)
    go_enter Try.func71, Try.ntmps71
    go_wp2_with (first
      | ((with_reducible refine gate_dst (N := 1) rfl ?_); refine box_event ?hg (N := 1) ?hd (cs := #[.slice (some ad) l.length c]) (t := 53) ?hr ?_; (case hd => rfl); (case hg => rfl); (case hr => first | (go_simp; done) | (go_simp; rfl)); intro g1 hg_ w1 hbox hb; have HB1 := Aside0.mk (below_then HB0.out HB0.out.size hb); have K1 := Aside0.mk hbox; have Gg1 := Aside0.mk (show w.heap.size ≤ g1 from by rw [hg_]; exact HB0.out.size); have kc0 : w1.cell? ⟨g1, 0, none⟩ = some (.slice (some ad) l.length c) := (blk_cell K1.out 0).trans rfl; have hz : w1.cell? ad = some (.int .i64 0) := (hb.cell (World.block_lt_of_cell? _ _ HX.out)).trans HX.out; clear hbox hb hg_))
    go_ret
    exact ⟨rfl, HB1.out⟩
  · have hgt : decide ((2 : Int) > (l.length : Int)) = true := decide_eq_true (by omega)
    have hgt2 : decide ((l.length : Int) < (2 : Int)) = true := decide_eq_true (by omega)
    go_enter Try.func71, Try.ntmps71
    go_wp2_with (first
      | ((with_reducible refine gate_dst (N := 1) rfl ?_); refine box_event ?hg (N := 1) ?hd (cs := #[.slice (some ad) l.length c]) (t := 53) ?hr ?_; (case hd => rfl); (case hg => rfl); (case hr => first | (go_simp; done) | (go_simp; rfl)); intro g1 hg_ w1 hbox hb; have HB1 := Aside0.mk (below_then HB0.out HB0.out.size hb); have K1 := Aside0.mk hbox; have Gg1 := Aside0.mk (show w.heap.size ≤ g1 from by rw [hg_]; exact HB0.out.size); have kc0 : w1.cell? ⟨g1, 0, none⟩ = some (.slice (some ad) l.length c) := (blk_cell K1.out 0).trans rfl; have hz : w1.cell? ad = some (.int .i64 2) := (hb.cell (World.block_lt_of_cell? _ _ HX.out)).trans HX.out; clear hbox hb hg_))
    go_ret
    exact ⟨rfl, HB1.out⟩
  · have hgt : decide ((4 : Int) > (l.length : Int)) = true := decide_eq_true (by omega)
    have hgt2 : decide ((l.length : Int) < (4 : Int)) = true := decide_eq_true (by omega)
    go_enter Try.func71, Try.ntmps71
    go_wp2_with (first
      | ((with_reducible refine gate_dst (N := 1) rfl ?_); refine box_event ?hg (N := 1) ?hd (cs := #[.slice (some ad) l.length c]) (t := 53) ?hr ?_; (case hd => rfl); (case hg => rfl); (case hr => first | (go_simp; done) | (go_simp; rfl)); intro g1 hg_ w1 hbox hb; have HB1 := Aside0.mk (below_then HB0.out HB0.out.size hb); have K1 := Aside0.mk hbox; have Gg1 := Aside0.mk (show w.heap.size ≤ g1 from by rw [hg_]; exact HB0.out.size); have kc0 : w1.cell? ⟨g1, 0, none⟩ = some (.slice (some ad) l.length c) := (blk_cell K1.out 0).trans rfl; have hz : w1.cell? ad = some (.int .i64 1) := (hb.cell (World.block_lt_of_cell? _ _ HX.out)).trans HX.out; clear hbox hb hg_))
    go_ret
    exact ⟨rfl, HB1.out⟩
set_option maxHeartbeats 2000000 in
set_option maxRecDepth 100000 in
theorem canc_some (l : List S59) (A : Option Addr) (c : Nat) (hl : 0 < l.length) (many : Nat) (hm0 : many = 2 ∨ many = 4) (hml : many ≤ l.length) (hk : manyOf (rd_T59 l 0).f0 = many) (w : World) (hr : Kd.C k59 w A l.length l) (hc : l.length ≤ c) :
    Calls Try.prog 71 #[.slice A l.length c] w fun e w' => e = .returned (.int .i64 (cancelN l : Int)) ∧ Below w.heap.size w w' := by
  have HCN := Aside0.mk (show cancelN l = if (l.take many).any (otherKind l) = true then 0 else many from by unfold cancelN; rw [hk, if_neg (by omega), if_neg (by omega)])
  have hm : l.length ≤ 9223372036854775807 := hr.2.1
  have HR := Aside0.mk hr
  have HB0 := Aside0.mk (Below.refl w.heap.size w)
  have hu := Try.underlying53
  have hus := Try.underlying59
  have EG := Aside0.mk (show ∀ args W, (callFunc 92 args).run Try.prog W = .ok (.enter 92 args) W from enters_of Try.func92 (by kernel_rfl) rfl)
  obtain ⟨ad, A6, c6, e, hx0, _, _, _, _, _, _, _⟩ := at_T59 hr 0 (by omega) (by omega)
  subst e
  rw [add_zero6] at hx0
  generalize hkk : (rd_T59 l 0).f0 = k0 at *
  have hq : (many = 2 ∧ (k0 = 0 ∨ k0 = 2)) ∨ (many = 4 ∧ k0 = 1) := by
    unfold manyOf at hk
    by_cases c0 : k0 = 0
    · rw [if_pos c0] at hk; exact .inl ⟨hk.symm, .inl c0⟩
    · rw [if_neg c0] at hk
      by_cases c2 : k0 = 2
      · rw [if_pos c2] at hk; exact .inl ⟨hk.symm, .inr c2⟩
      · rw [if_neg c2] at hk
        by_cases c1 : k0 = 1
        · rw [if_pos c1] at hk; exact .inr ⟨hk.symm, c1⟩
        · rw [if_neg c1] at hk; omega
  have hlb : ((List.take many l)).length = many := by rw [List.length_take]; omega
  have hx := World.block_lt_of_cell? w _ hx0
  have HX := Aside0.mk hx0
  have HC := Aside0.mk hc
  clear hr hkk hk hm0 hx0
  have hq3 : (many = 2 ∧ k0 = 0) ∨ (many = 2 ∧ k0 = 2) ∨ (many = 4 ∧ k0 = 1) := by omega
  clear hq
  rcases hq3 with ⟨rfl, rfl⟩ | ⟨rfl, rfl⟩ | ⟨rfl, rfl⟩
  · have HLB := Aside0.mk hlb
    have hgt : decide ((2 : Int) > (l.length : Int)) = false := decide_eq_false (by omega)
    have hgt2 : decide ((l.length : Int) < (2 : Int)) = false := decide_eq_false (by omega)
    have hgt3 : ¬ (l.length < 2) := by omega
    have hgc : (2 : Int) ≤ (c : Int) := by omega
    clear hlb
    by_cases hv : (l.take 2).any (otherKind l) = true
    · have HV := Aside0.mk hv
      rw [hv, if_pos rfl] at HCN
      clear hv
      go_enter Try.func71, Try.ntmps71
      go_wp2_with (first
        | ((with_reducible refine gate_dst (N := 1) rfl ?_); refine box_event ?hg (N := 1) ?hd (cs := #[.slice (some ad) l.length c]) (t := 53) ?hr ?_; (case hd => rfl); (case hg => rfl); (case hr => first | (go_simp; done) | (go_simp; rfl)); intro g1 hg_ w1 hbox hb; have HB1 := Aside0.mk (below_then HB0.out HB0.out.size hb); have K1 := Aside0.mk hbox; have Gg1 := Aside0.mk (show w.heap.size ≤ g1 from by rw [hg_]; exact HB0.out.size); have kc0 : w1.cell? ⟨g1, 0, none⟩ = some (.slice (some ad) l.length c) := (blk_cell K1.out 0).trans rfl; have hz : w1.cell? ad = some (.int .i64 0) := (hb.cell (World.block_lt_of_cell? _ _ HX.out)).trans HX.out; have HP := Aside0.mk (show ∀ (W : World) (x : S59) (A5 : Option Addr) (c5 : Nat), Below w1.heap.size w1 W → Calls Try.prog 92 (#[.agg #[.int .i64 x.f0, .int .i64 x.f1.f0, .int .i64 x.f1.f1, .int .i64 x.f1.f2, .int .i64 x.f1.f3, .slice A5 x.f2.length c5]] ++ #[.pointer (some ⟨g1, 0, none⟩)]) W fun e W' => e = .returned (.bool (otherKind l x)) ∧ Below W.heap.size W W' from fun W x A5 c5 hW => cancelCmp l (some ad) c x A5 c5 g1 W hl ((blk_cell (blk_below K1.out hW) 0).trans rfl) (Kd.C_below (Kd.C_below HR.out HB1.out) hW)); have HT := Aside0.mk (Kd.C_take (m := 2) (Kd.C_below HR.out HB1.out) (by omega)); clear hbox hb hg_)
        | (go_at_call 91; have hcf := containsFunc_Step 92 #[.pointer (some ⟨g1, 0, none⟩)] (otherKind l) (some ad) c (l.take 2) w1 EG.out HP.out HT.out; rw [HLB.out] at hcf; (with_reducible refine hcf.mono ?_); clear hcf; rintro e w2 ⟨rfl, hb⟩; rw [HV.out]; have HB2 := Aside0.mk (below_then HB1.out HB1.out.size hb); clear hb))
      go_ret
      exact ⟨by rw [HCN.out]; rfl, HB2.out⟩
    · replace hv : (l.take 2).any (otherKind l) = false := by simpa using hv
      have HV := Aside0.mk hv
      rw [hv, if_neg (by simp)] at HCN
      clear hv
      go_enter Try.func71, Try.ntmps71
      go_wp2_with (first
        | ((with_reducible refine gate_dst (N := 1) rfl ?_); refine box_event ?hg (N := 1) ?hd (cs := #[.slice (some ad) l.length c]) (t := 53) ?hr ?_; (case hd => rfl); (case hg => rfl); (case hr => first | (go_simp; done) | (go_simp; rfl)); intro g1 hg_ w1 hbox hb; have HB1 := Aside0.mk (below_then HB0.out HB0.out.size hb); have K1 := Aside0.mk hbox; have Gg1 := Aside0.mk (show w.heap.size ≤ g1 from by rw [hg_]; exact HB0.out.size); have kc0 : w1.cell? ⟨g1, 0, none⟩ = some (.slice (some ad) l.length c) := (blk_cell K1.out 0).trans rfl; have hz : w1.cell? ad = some (.int .i64 0) := (hb.cell (World.block_lt_of_cell? _ _ HX.out)).trans HX.out; have HP := Aside0.mk (show ∀ (W : World) (x : S59) (A5 : Option Addr) (c5 : Nat), Below w1.heap.size w1 W → Calls Try.prog 92 (#[.agg #[.int .i64 x.f0, .int .i64 x.f1.f0, .int .i64 x.f1.f1, .int .i64 x.f1.f2, .int .i64 x.f1.f3, .slice A5 x.f2.length c5]] ++ #[.pointer (some ⟨g1, 0, none⟩)]) W fun e W' => e = .returned (.bool (otherKind l x)) ∧ Below W.heap.size W W' from fun W x A5 c5 hW => cancelCmp l (some ad) c x A5 c5 g1 W hl ((blk_cell (blk_below K1.out hW) 0).trans rfl) (Kd.C_below (Kd.C_below HR.out HB1.out) hW)); have HT := Aside0.mk (Kd.C_take (m := 2) (Kd.C_below HR.out HB1.out) (by omega)); clear hbox hb hg_)
        | (go_at_call 91; have hcf := containsFunc_Step 92 #[.pointer (some ⟨g1, 0, none⟩)] (otherKind l) (some ad) c (l.take 2) w1 EG.out HP.out HT.out; rw [HLB.out] at hcf; (with_reducible refine hcf.mono ?_); clear hcf; rintro e w2 ⟨rfl, hb⟩; rw [HV.out]; have HB2 := Aside0.mk (below_then HB1.out HB1.out.size hb); clear hb))
      go_ret
      exact ⟨by rw [HCN.out]; rfl, HB2.out⟩
  · have HLB := Aside0.mk hlb
    have hgt : decide ((2 : Int) > (l.length : Int)) = false := decide_eq_false (by omega)
    have hgt2 : decide ((l.length : Int) < (2 : Int)) = false := decide_eq_false (by omega)
    have hgt3 : ¬ (l.length < 2) := by omega
    have hgc : (2 : Int) ≤ (c : Int) := by omega
    clear hlb
    by_cases hv : (l.take 2).any (otherKind l) = true
    · have HV := Aside0.mk hv
      rw [hv, if_pos rfl] at HCN
      clear hv
      go_enter Try.func71, Try.ntmps71
      go_wp2_with (first
        | ((with_reducible refine gate_dst (N := 1) rfl ?_); refine box_event ?hg (N := 1) ?hd (cs := #[.slice (some ad) l.length c]) (t := 53) ?hr ?_; (case hd => rfl); (case hg => rfl); (case hr => first | (go_simp; done) | (go_simp; rfl)); intro g1 hg_ w1 hbox hb; have HB1 := Aside0.mk (below_then HB0.out HB0.out.size hb); have K1 := Aside0.mk hbox; have Gg1 := Aside0.mk (show w.heap.size ≤ g1 from by rw [hg_]; exact HB0.out.size); have kc0 : w1.cell? ⟨g1, 0, none⟩ = some (.slice (some ad) l.length c) := (blk_cell K1.out 0).trans rfl; have hz : w1.cell? ad = some (.int .i64 2) := (hb.cell (World.block_lt_of_cell? _ _ HX.out)).trans HX.out; have HP := Aside0.mk (show ∀ (W : World) (x : S59) (A5 : Option Addr) (c5 : Nat), Below w1.heap.size w1 W → Calls Try.prog 92 (#[.agg #[.int .i64 x.f0, .int .i64 x.f1.f0, .int .i64 x.f1.f1, .int .i64 x.f1.f2, .int .i64 x.f1.f3, .slice A5 x.f2.length c5]] ++ #[.pointer (some ⟨g1, 0, none⟩)]) W fun e W' => e = .returned (.bool (otherKind l x)) ∧ Below W.heap.size W W' from fun W x A5 c5 hW => cancelCmp l (some ad) c x A5 c5 g1 W hl ((blk_cell (blk_below K1.out hW) 0).trans rfl) (Kd.C_below (Kd.C_below HR.out HB1.out) hW)); have HT := Aside0.mk (Kd.C_take (m := 2) (Kd.C_below HR.out HB1.out) (by omega)); clear hbox hb hg_)
        | (go_at_call 91; have hcf := containsFunc_Step 92 #[.pointer (some ⟨g1, 0, none⟩)] (otherKind l) (some ad) c (l.take 2) w1 EG.out HP.out HT.out; rw [HLB.out] at hcf; (with_reducible refine hcf.mono ?_); clear hcf; rintro e w2 ⟨rfl, hb⟩; rw [HV.out]; have HB2 := Aside0.mk (below_then HB1.out HB1.out.size hb); clear hb))
      go_ret
      exact ⟨by rw [HCN.out]; rfl, HB2.out⟩
    · replace hv : (l.take 2).any (otherKind l) = false := by simpa using hv
      have HV := Aside0.mk hv
      rw [hv, if_neg (by simp)] at HCN
      clear hv
      go_enter Try.func71, Try.ntmps71
      go_wp2_with (first
        | ((with_reducible refine gate_dst (N := 1) rfl ?_); refine box_event ?hg (N := 1) ?hd (cs := #[.slice (some ad) l.length c]) (t := 53) ?hr ?_; (case hd => rfl); (case hg => rfl); (case hr => first | (go_simp; done) | (go_simp; rfl)); intro g1 hg_ w1 hbox hb; have HB1 := Aside0.mk (below_then HB0.out HB0.out.size hb); have K1 := Aside0.mk hbox; have Gg1 := Aside0.mk (show w.heap.size ≤ g1 from by rw [hg_]; exact HB0.out.size); have kc0 : w1.cell? ⟨g1, 0, none⟩ = some (.slice (some ad) l.length c) := (blk_cell K1.out 0).trans rfl; have hz : w1.cell? ad = some (.int .i64 2) := (hb.cell (World.block_lt_of_cell? _ _ HX.out)).trans HX.out; have HP := Aside0.mk (show ∀ (W : World) (x : S59) (A5 : Option Addr) (c5 : Nat), Below w1.heap.size w1 W → Calls Try.prog 92 (#[.agg #[.int .i64 x.f0, .int .i64 x.f1.f0, .int .i64 x.f1.f1, .int .i64 x.f1.f2, .int .i64 x.f1.f3, .slice A5 x.f2.length c5]] ++ #[.pointer (some ⟨g1, 0, none⟩)]) W fun e W' => e = .returned (.bool (otherKind l x)) ∧ Below W.heap.size W W' from fun W x A5 c5 hW => cancelCmp l (some ad) c x A5 c5 g1 W hl ((blk_cell (blk_below K1.out hW) 0).trans rfl) (Kd.C_below (Kd.C_below HR.out HB1.out) hW)); have HT := Aside0.mk (Kd.C_take (m := 2) (Kd.C_below HR.out HB1.out) (by omega)); clear hbox hb hg_)
        | (go_at_call 91; have hcf := containsFunc_Step 92 #[.pointer (some ⟨g1, 0, none⟩)] (otherKind l) (some ad) c (l.take 2) w1 EG.out HP.out HT.out; rw [HLB.out] at hcf; (with_reducible refine hcf.mono ?_); clear hcf; rintro e w2 ⟨rfl, hb⟩; rw [HV.out]; have HB2 := Aside0.mk (below_then HB1.out HB1.out.size hb); clear hb))
      go_ret
      exact ⟨by rw [HCN.out]; rfl, HB2.out⟩
  · have HLB := Aside0.mk hlb
    have hgt : decide ((4 : Int) > (l.length : Int)) = false := decide_eq_false (by omega)
    have hgt2 : decide ((l.length : Int) < (4 : Int)) = false := decide_eq_false (by omega)
    have hgt3 : ¬ (l.length < 4) := by omega
    have hgc : (4 : Int) ≤ (c : Int) := by omega
    clear hlb
    by_cases hv : (l.take 4).any (otherKind l) = true
    · have HV := Aside0.mk hv
      rw [hv, if_pos rfl] at HCN
      clear hv
      go_enter Try.func71, Try.ntmps71
      go_wp2_with (first
        | ((with_reducible refine gate_dst (N := 1) rfl ?_); refine box_event ?hg (N := 1) ?hd (cs := #[.slice (some ad) l.length c]) (t := 53) ?hr ?_; (case hd => rfl); (case hg => rfl); (case hr => first | (go_simp; done) | (go_simp; rfl)); intro g1 hg_ w1 hbox hb; have HB1 := Aside0.mk (below_then HB0.out HB0.out.size hb); have K1 := Aside0.mk hbox; have Gg1 := Aside0.mk (show w.heap.size ≤ g1 from by rw [hg_]; exact HB0.out.size); have kc0 : w1.cell? ⟨g1, 0, none⟩ = some (.slice (some ad) l.length c) := (blk_cell K1.out 0).trans rfl; have hz : w1.cell? ad = some (.int .i64 1) := (hb.cell (World.block_lt_of_cell? _ _ HX.out)).trans HX.out; have HP := Aside0.mk (show ∀ (W : World) (x : S59) (A5 : Option Addr) (c5 : Nat), Below w1.heap.size w1 W → Calls Try.prog 92 (#[.agg #[.int .i64 x.f0, .int .i64 x.f1.f0, .int .i64 x.f1.f1, .int .i64 x.f1.f2, .int .i64 x.f1.f3, .slice A5 x.f2.length c5]] ++ #[.pointer (some ⟨g1, 0, none⟩)]) W fun e W' => e = .returned (.bool (otherKind l x)) ∧ Below W.heap.size W W' from fun W x A5 c5 hW => cancelCmp l (some ad) c x A5 c5 g1 W hl ((blk_cell (blk_below K1.out hW) 0).trans rfl) (Kd.C_below (Kd.C_below HR.out HB1.out) hW)); have HT := Aside0.mk (Kd.C_take (m := 4) (Kd.C_below HR.out HB1.out) (by omega)); clear hbox hb hg_)
        | (go_at_call 91; have hcf := containsFunc_Step 92 #[.pointer (some ⟨g1, 0, none⟩)] (otherKind l) (some ad) c (l.take 4) w1 EG.out HP.out HT.out; rw [HLB.out] at hcf; (with_reducible refine hcf.mono ?_); clear hcf; rintro e w2 ⟨rfl, hb⟩; rw [HV.out]; have HB2 := Aside0.mk (below_then HB1.out HB1.out.size hb); clear hb))
      go_ret
      exact ⟨by rw [HCN.out]; rfl, HB2.out⟩
    · replace hv : (l.take 4).any (otherKind l) = false := by simpa using hv
      have HV := Aside0.mk hv
      rw [hv, if_neg (by simp)] at HCN
      clear hv
      go_enter Try.func71, Try.ntmps71
      go_wp2_with (first
        | ((with_reducible refine gate_dst (N := 1) rfl ?_); refine box_event ?hg (N := 1) ?hd (cs := #[.slice (some ad) l.length c]) (t := 53) ?hr ?_; (case hd => rfl); (case hg => rfl); (case hr => first | (go_simp; done) | (go_simp; rfl)); intro g1 hg_ w1 hbox hb; have HB1 := Aside0.mk (below_then HB0.out HB0.out.size hb); have K1 := Aside0.mk hbox; have Gg1 := Aside0.mk (show w.heap.size ≤ g1 from by rw [hg_]; exact HB0.out.size); have kc0 : w1.cell? ⟨g1, 0, none⟩ = some (.slice (some ad) l.length c) := (blk_cell K1.out 0).trans rfl; have hz : w1.cell? ad = some (.int .i64 1) := (hb.cell (World.block_lt_of_cell? _ _ HX.out)).trans HX.out; have HP := Aside0.mk (show ∀ (W : World) (x : S59) (A5 : Option Addr) (c5 : Nat), Below w1.heap.size w1 W → Calls Try.prog 92 (#[.agg #[.int .i64 x.f0, .int .i64 x.f1.f0, .int .i64 x.f1.f1, .int .i64 x.f1.f2, .int .i64 x.f1.f3, .slice A5 x.f2.length c5]] ++ #[.pointer (some ⟨g1, 0, none⟩)]) W fun e W' => e = .returned (.bool (otherKind l x)) ∧ Below W.heap.size W W' from fun W x A5 c5 hW => cancelCmp l (some ad) c x A5 c5 g1 W hl ((blk_cell (blk_below K1.out hW) 0).trans rfl) (Kd.C_below (Kd.C_below HR.out HB1.out) hW)); have HT := Aside0.mk (Kd.C_take (m := 4) (Kd.C_below HR.out HB1.out) (by omega)); clear hbox hb hg_)
        | (go_at_call 91; have hcf := containsFunc_Step 92 #[.pointer (some ⟨g1, 0, none⟩)] (otherKind l) (some ad) c (l.take 4) w1 EG.out HP.out HT.out; rw [HLB.out] at hcf; (with_reducible refine hcf.mono ?_); clear hcf; rintro e w2 ⟨rfl, hb⟩; rw [HV.out]; have HB2 := Aside0.mk (below_then HB1.out HB1.out.size hb); clear hb))
      go_ret
      exact ⟨by rw [HCN.out]; rfl, HB2.out⟩
theorem impl_cancelling.calls (A0 : Option Addr) (c0 : Nat) (l0 : List S59) (r : Int) (w : World) (hr0 : Kd.C k59 w A0 l0.length l0) (hc0 : l0.length ≤ c0) (h : impl_cancelling.f l0 = some r) :
    Calls Try.prog 71 #[.slice A0 l0.length c0] w fun e w' => e = .returned (.int .i64 r) ∧ Below w.heap.size w w' := by
  unfold impl_cancelling.f at h
  by_cases hl : 0 < l0.length
  · rw [if_pos hl] at h
    obtain rfl := Option.some.inj h
    have h5 : manyOf (rd_T59 l0 0).f0 = 0 ∨ (manyOf (rd_T59 l0 0).f0 = 2 ∧ ((rd_T59 l0 0).f0 = 0 ∨ (rd_T59 l0 0).f0 = 2)) ∨ (manyOf (rd_T59 l0 0).f0 = 4 ∧ (rd_T59 l0 0).f0 = 1) := by
      unfold manyOf
      by_cases c0 : (rd_T59 l0 0).f0 = 0
      · rw [if_pos c0]; exact .inr (.inl ⟨rfl, .inl c0⟩)
      · rw [if_neg c0]
        by_cases c2 : (rd_T59 l0 0).f0 = 2
        · rw [if_pos c2]; exact .inr (.inl ⟨rfl, .inr c2⟩)
        · rw [if_neg c2]
          by_cases c1 : (rd_T59 l0 0).f0 = 1
          · rw [if_pos c1]; exact .inr (.inr ⟨rfl, c1⟩)
          · rw [if_neg c1]; exact .inl rfl
    by_cases hz : manyOf (rd_T59 l0 0).f0 = 0
    · rw [show cancelN l0 = 0 from by unfold cancelN; rw [if_pos hz]]
      exact canc_other l0 A0 c0 hl hz w hr0
    · by_cases hs : l0.length < manyOf (rd_T59 l0 0).f0
      · rw [show cancelN l0 = 0 from by unfold cancelN; rw [if_neg hz, if_pos hs]]
        exact canc_short l0 A0 c0 hl (by omega) w hr0
      · exact canc_some l0 A0 c0 hl _ (by omega) (by omega) rfl w hr0 hc0
  · rw [if_neg hl] at h; cases h

/- impl.SimplifySteps: steps that cancel each other are taken out. -/

def simpF : Nat → List S59 → Nat → List S59
  | 0, l, _ => l
  | k + 1, l, i => if i < l.length then (if cancelN (l.drop i) = 0 then simpF k l (i + 1) else simpF k (l.take i ++ l.drop (i + cancelN (l.drop i))) 0) else l
def impl_SimplifySteps.f (l0 : List S59) : Option (List S59) := if l0.all (fun s => decide (s.f2.length ≤ 2000000)) = true then some (if 12 < l0.length then [] else simpF 200 l0 0) else none
theorem simpF_succ (k : Nat) (l : List S59) (i : Nat) : simpF (k + 1) l i = if i < l.length then (if cancelN (l.drop i) = 0 then simpF k l (i + 1) else simpF k (l.take i ++ l.drop (i + cancelN (l.drop i))) 0) else l := rfl
theorem cancelN_le (l : List S59) : cancelN l ≤ l.length := by
  unfold cancelN
  split
  · omega
  · split
    · omega
    · split <;> omega
theorem S_cut {α : Type} {d : Kd α} {e base : Nat} {w : World} {ok : Nat → Prop} {v : Value} {xs : List α} {f : Nat → Nat} (i j : Nat) (hij : i ≤ j) (hi : i ≤ xs.length) (h : (Kd.tag f d).R e w base ok v (xs.zipIdx.take i ++ xs.zipIdx.drop j)) : Kd.S d e w base ok v (xs.take i ++ xs.drop j) := by
  obtain ⟨h0, inner, ho, hr⟩ := h
  have hl : (xs.zipIdx.take i ++ xs.zipIdx.drop j).length = (xs.take i ++ xs.drop j).length := by simp
  rw [hl] at ho
  refine ⟨fun b => if f b < i then f b else f b - (j - i), h0, inner, by rw [List.length_zipIdx]; exact ho, by rw [List.length_zipIdx, ← hl]; exact hr.1, fun m p hm => ?_⟩
  rw [List.getElem?_zipIdx, Nat.zero_add] at hm
  obtain ⟨x, hx, rfl⟩ := Option.map_eq_some_iff.1 hm
  by_cases hmi : m < i
  · have e : (xs.take i ++ xs.drop j)[m]? = xs[m]? := by rw [List.getElem?_append_left (by rw [List.length_take]; omega), List.getElem?_take, if_pos hmi]
    rw [e] at hx
    refine d.M_mono (fun b hb => ⟨hb.1, ?_⟩) (hr.2 m (x, m) (by rw [List.getElem?_append_left (by rw [List.length_take, List.length_zipIdx]; omega), List.getElem?_take, if_pos hmi]; exact Kd.zip_at hx))
    have h2 : f b = m := hb.2
    show (if f b < i then f b else f b - (j - i)) = m
    rw [if_pos (by omega)]; exact h2
  · have e : (xs.take i ++ xs.drop j)[m]? = xs[m + (j - i)]? := by rw [List.getElem?_append_right (by rw [List.length_take]; omega), List.getElem?_drop, List.length_take]; congr 1; omega
    rw [e] at hx
    refine d.M_mono (fun b hb => ⟨hb.1, ?_⟩) (hr.2 m (x, m + (j - i)) (by rw [List.getElem?_append_right (by rw [List.length_take, List.length_zipIdx]; omega), List.getElem?_drop, List.length_take, List.length_zipIdx, show j + (m - min i xs.length) = m + (j - i) by omega]; exact Kd.zip_at hx))
    have h2 : f b = m + (j - i) := hb.2
    show (if f b < i then f b else f b - (j - i)) = m
    rw [if_neg (by omega)]; omega
set_option maxHeartbeats 4000000 in
set_option maxRecDepth 100000 in
theorem simp_some (A0 : Option Addr) (c0 : Nat) (l : List S59) (w : World) (hr0 : Kd.C k59 w A0 l.length l) (h12 : l.length ≤ 12) (hpx : ∀ s ∈ l, s.f2.length ≤ 2000000) :
    Calls Try.prog 38 #[.slice A0 l.length c0] w fun e w' => ∃ v0_ : Value, e = .returned v0_ ∧ Kd.S k59 59 w' w.heap.size (fun _ => True) v0_ (simpF 200 l 0) ∧ Below w.heap.size w w' := by
  have HR := Aside0.mk hr0
  have hu := Try.underlying53
  have hus := Try.underlying59
  have hui := Try.underlying57
  have q12 : decide ((l.length : Int) > 12) = false := decide_eq_false (by omega)
  have q12b : decide (12 < l.length) = false := decide_eq_false (by omega)
  clear hr0
  go_enter Try.func38, Try.ntmps38
  go_wp2_with (first
    | ((with_reducible refine gate_dst (N := 11) rfl ?_); refine Kd.S_lit k59 (w0 := w) w.heap.size 59 ?hg (N := 11) ?hd (xs := ([] : List S59)) (inner := []) (ok := fun _ => True) (okp := fun _ => True) ?hr ?hp (fun _ hk => hk) trivial (Below.refl _ _) (Nat.le_refl _) (by simp) ?_; (case hd => rfl); (case hg => rfl); (case hr => first | (go_simp; done) | (go_simp; rfl)); (case hp => exact (Reps.none _ _)); intro v11 w1 ho hb hg_ hnew_; have O1 := Aside0.mk (And.intro ho (And.intro (hnew_.imp fun _ h => h.1) hb)); clear ho hb hg_ hnew_))
  go_loopw [3, 14] (fun v3 v14 W => ∃ i : Nat, v14 = .int .i64 i ∧ i ≤ l.length ∧ Aside0 (Kd.S k59 59 W w.heap.size (fun _ => True) v3 (l.take i) ∧ (∃ g, v3.ownBlock = some g) ∧ Below w.heap.size w W)) (fun _ v14 _ => l.length - (intOf v14).toNat)
  case atStart => exact ⟨0, rfl, by omega, ⟨O1.out.1, O1.out.2.1, O1.out.2.2⟩⟩
  case round =>
    clear O1
    obtain ⟨i, rfl, hi, HV⟩ := hrel
    by_cases hlt : i < l.length
    · have q1 : decide ((i : Int) < (l.length : Int)) = true := decide_eq_true (by omega)
      obtain ⟨ad, A5, c5, e, hx0, hx1, hx2, hx3, hx4, hx5, l5, g5⟩ := at_T59 (Kd.C_below HR.out HV.out.2.2) (i : Int) (by omega) (by omega)
      subst e
      rw [Int.toNat_natCast] at hx0 hx1 hx2 hx3 hx4 hx5
      have er : rd_T59 l (i : Int) = l[i] := by simp [rd_T59, hlt]
      have HTK := Aside0.mk (show l.take (i + 1) = l.take i ++ [rd_T59 l (i : Int)] from by rw [List.take_succ_eq_append_getElem hlt, er])
      have HPX := Aside0.mk (show (rd_T59 l (i : Int)).f2.length ≤ 2000000 from by rw [er]; exact hpx _ (List.getElem_mem _))
      clear er
      generalize rd_T59 l (i : Int) = x at *
      have HOW := Aside0.mk HV.out.2.1
      have KS := Aside0.mk (blk_new wr (.cells #[.int .i64 x.f0, .int .i64 x.f1.f0, .int .i64 x.f1.f1, .int .i64 x.f1.f2, .int .i64 x.f1.f3, .slice A5 x.f2.length c5] 59 (0, 0)))
      have hgs1 : wr.heap.size < (wr.alloc (.cells #[.int .i64 x.f0, .int .i64 x.f1.f0, .int .i64 x.f1.f1, .int .i64 x.f1.f2, .int .i64 x.f1.f3, .slice A5 x.f2.length c5] 59 (0, 0))).heap.size := blk_lt KS.out
      have hws : w.heap.size ≤ wr.heap.size := HV.out.2.2.size
      have ROA := Aside0.mk (Kd.S_old HV.out.1 (below_alloc (Below.refl _ _) (.cells #[.int .i64 x.f0, .int .i64 x.f1.f0, .int .i64 x.f1.f1, .int .i64 x.f1.f2, .int .i64 x.f1.f3, .slice A5 x.f2.length c5] 59 (0, 0))))
      have HBA := Aside0.mk (below_alloc HV.out.2.2 (.cells #[.int .i64 x.f0, .int .i64 x.f1.f0, .int .i64 x.f1.f1, .int .i64 x.f1.f2, .int .i64 x.f1.f3, .slice A5 x.f2.length c5] 59 (0, 0)))
      have HCA := Aside0.mk (Kd.C_below g5 (below_alloc (Below.refl _ _) (.cells #[.int .i64 x.f0, .int .i64 x.f1.f0, .int .i64 x.f1.f1, .int .i64 x.f1.f2, .int .i64 x.f1.f3, .slice A5 x.f2.length c5] 59 (0, 0))))
      clear HV g5
      go_wp2_with (first
        | ((with_reducible refine gate_dst (N := 18) rfl ?_); refine Kd.R_lit (Kd.int .i64) (w0 := (wr.alloc (.cells #[.int .i64 x.f0, .int .i64 x.f1.f0, .int .i64 x.f1.f1, .int .i64 x.f1.f2, .int .i64 x.f1.f3, .slice A5 x.f2.length c5] 59 (0, 0)))) (wr.alloc (.cells #[.int .i64 x.f0, .int .i64 x.f1.f0, .int .i64 x.f1.f1, .int .i64 x.f1.f2, .int .i64 x.f1.f3, .slice A5 x.f2.length c5] 59 (0, 0))).heap.size 3 ?hg (N := 18) ?hd (xs := ([] : List Int)) (inner := []) (ok := fun _ => True) (okp := fun _ => True) ?hr ?hp (fun _ hk => hk) trivial (Below.refl _ _) (Nat.le_refl _) (by simp) ?_; (case hd => rfl); (case hg => rfl); (case hr => first | (go_simp; done) | (go_simp; rfl)); (case hp => exact (Reps.none _ _)); intro v18 w2 ho hb hg_ hnew_; have RP2 := Aside0.mk ho; have RO2 := Aside0.mk (Kd.S_below ROA.out hb); have KS2 := Aside0.mk (blk_below KS.out hb); have HB2 := Aside0.mk (below_then HBA.out HBA.out.size hb); have HC2 := Aside0.mk (Kd.C_below HCA.out hb); have SZ2 := Aside0.mk hb.size; clear ho hb hg_ hnew_ KS ROA HBA HCA; generalize (wr.alloc (.cells #[.int .i64 x.f0, .int .i64 x.f1.f0, .int .i64 x.f1.f1, .int .i64 x.f1.f2, .int .i64 x.f1.f3, .slice A5 x.f2.length c5] 59 (0, 0))).heap.size = s1 at *; generalize wr.heap.size = gs at *; have y0 : w2.cell? ⟨gs, 0, none⟩ = some (.int .i64 x.f0) := (blk_cell KS2.out 0).trans rfl; have y1 : w2.cell? ⟨gs, 1, none⟩ = some (.int .i64 x.f1.f0) := (blk_cell KS2.out 1).trans rfl; have y2 : w2.cell? ⟨gs, 2, none⟩ = some (.int .i64 x.f1.f1) := (blk_cell KS2.out 2).trans rfl; have y3 : w2.cell? ⟨gs, 3, none⟩ = some (.int .i64 x.f1.f2) := (blk_cell KS2.out 3).trans rfl; have y4 : w2.cell? ⟨gs, 4, none⟩ = some (.int .i64 x.f1.f3) := (blk_cell KS2.out 4).trans rfl; have y5 : w2.cell? ⟨gs, 5, none⟩ = some (.slice A5 x.f2.length c5) := (blk_cell KS2.out 5).trans rfl)
        | ((with_reducible refine gate_builtin (b := .append) (xs := #[.tmp 18, .tmp 20]) rfl ?_); at_builtin; refine Kd.R_append_rows (Kd.int .i64) (w0 := w2) s1 rfl (.tmp 18) (.tmp 20) 57 3 (.int .i64 0) 8 rfl Try.underlying57 info3 rfl (by decide) (by omega) v18 [] x.f2 _ _ _ (fun _ => True) (fun _ => False) rfl rfl RP2.out HC2.out (fun _ _ h => h) (fun _ h => h.elim) (fun _ _ => trivial) (Below.refl _ _) SZ2.out (by have := HPX.out; simp; omega) ?_; intro v21 w3 ho hb hg hat; rw [List.nil_append] at ho; obtain ⟨A7, q7, e7⟩ := Kd.R_slice ho; subst e7; have RP3 := Aside0.mk ho; have RO3 := Aside0.mk (Kd.S_step RO2.out (w1 := w3) (fun k hk _ => hb.block k (by have := hk.2; omega))); have KS3 := Aside0.mk ((hb.block gs hgs1).trans KS2.out); have HB3 := Aside0.mk (below_weaken HB2.out (by omega) hb); clear ho hb hg hat RP2 RO2 KS2 HB2 HC2; have KS4 := Aside0.mk (blk_put (cs' := #[.int .i64 x.f0, .int .i64 x.f1.f0, .int .i64 x.f1.f1, .int .i64 x.f1.f2, .int .i64 x.f1.f3, (.slice A7 x.f2.length q7)]) KS3.out 5 (.slice A7 x.f2.length q7) rfl); have u5 : w3.cell? ⟨gs, 5, none⟩ = some (.slice A5 x.f2.length c5) := (blk_cell KS3.out 5).trans rfl; have uf := blk_frozen KS3.out 5; have z0 : (w3.setCell ⟨gs, 5, none⟩ (.slice A7 x.f2.length q7)).cell? ⟨gs, 0, none⟩ = some (.int .i64 x.f0) := (blk_cell KS4.out 0).trans rfl; have z1 : (w3.setCell ⟨gs, 5, none⟩ (.slice A7 x.f2.length q7)).cell? ⟨gs, 1, none⟩ = some (.int .i64 x.f1.f0) := (blk_cell KS4.out 1).trans rfl; have z2 : (w3.setCell ⟨gs, 5, none⟩ (.slice A7 x.f2.length q7)).cell? ⟨gs, 2, none⟩ = some (.int .i64 x.f1.f1) := (blk_cell KS4.out 2).trans rfl; have z3 : (w3.setCell ⟨gs, 5, none⟩ (.slice A7 x.f2.length q7)).cell? ⟨gs, 3, none⟩ = some (.int .i64 x.f1.f2) := (blk_cell KS4.out 3).trans rfl; have z4 : (w3.setCell ⟨gs, 5, none⟩ (.slice A7 x.f2.length q7)).cell? ⟨gs, 4, none⟩ = some (.int .i64 x.f1.f3) := (blk_cell KS4.out 4).trans rfl; have z5 : (w3.setCell ⟨gs, 5, none⟩ (.slice A7 x.f2.length q7)).cell? ⟨gs, 5, none⟩ = some (.slice A7 x.f2.length q7) := (blk_cell KS4.out 5).trans rfl; have RO4 := Aside0.mk (Kd.S_far (p := ⟨gs, 5, none⟩) RO3.out (fun k hk => by show k ≠ gs; have := hk.2; omega) (.slice A7 x.f2.length q7)); have RP4 := Aside0.mk (Kd.R_far (p := ⟨gs, 5, none⟩) (Kd.R_bound RP3.out) (fun k hk => by show k ≠ gs; have := hk.2.1; omega) (.slice A7 x.f2.length q7)); have HB4 := Aside0.mk (below_set (j := 5) (v := (.slice A7 x.f2.length q7)) HB3.out (by omega)); clear RO3 RP3 HB3 KS3 KS4)
        | ((with_reducible refine gate_builtin (b := .append) (xs := #[.tmp 23, .tmp 25]) rfl ?_); at_builtin; refine Kd.S_append k59 (w0 := w) w.heap.size rfl (.tmp 23) (.tmp 25) 53 59 (.agg #[(.int .i64 0), (.int .i64 0), (.int .i64 0), (.int .i64 0), (.int .i64 0), (.slice none 0 0)]) 64 rfl Try.underlying53 info59 rfl (by decide) (by omega) u3 (l.take i) x [.int .i64 x.f0, .int .i64 x.f1.f0, .int .i64 x.f1.f1, .int .i64 x.f1.f2, .int .i64 x.f1.f3, (.slice A7 x.f2.length q7)] (fun _ => True) (fun k => gs ≤ k ∧ some k ≠ u3.ownBlock) rfl ?aX (k59_mkM _ _ _ x (Kd.R_lower (Kd.R_mono RP4.out (fun k hk => ⟨by have h1 := hk.2.1; omega, fun he => by have h1 := hk.2.1; have h2 := ((Kd.S_R RO4.out).1 k he.symm).2; omega⟩)) (by omega))) (fun k hk => ⟨trivial, hk.2⟩) (fun _ _ => trivial) (Kd.S_mono RO4.out (fun k hk => ⟨trivial, fun h => by have h1 := hk.2; have h2 := h.1; omega⟩)) HB4.out HB4.out.size (by rw [List.length_take]; omega) ?_; (case aX => first | rfl | (rw [show (w3.setCell ⟨gs, 5, none⟩ (.slice A7 x.f2.length q7)).heap.size = w3.heap.size from by simp [World.setCell]]; rfl) | (simp [World.setCell]; done)); intro v26 w6 ho hb hg hat; have O6 := Aside0.mk (And.intro ho (And.intro (show ∃ g, v26.ownBlock = some g from by rcases hat with e | ⟨b, e, _⟩; exact e ▸ HOW.out; exact ⟨b, e⟩) hb)); clear ho hb hg hat))
      go_roundw
      case rel => exact ⟨i + 1, by go_num, by omega, ⟨by rw [HTK.out]; exact O6.out.1, O6.out.2.1, O6.out.2.2⟩⟩
      case measure => simp [intOf]; omega
    · have q1 : decide ((i : Int) < (l.length : Int)) = false := decide_eq_false (by omega)
      have htl : l.take i = l := List.take_of_length_le (by omega)
      rw [htl] at HV
      go_wp2
      go_loopg [3, 6] 200 (fun kq v3 v6 W => ∃ (cur : List S59) (i : Nat), v6 = .int .i64 i ∧ i ≤ cur.length ∧ cur.length ≤ 12 ∧ cur.length * 13 + (cur.length - i) < kq ∧ Aside0 (Kd.S k59 59 W w.heap.size (fun _ => True) v3 cur ∧ (∃ g, v3.ownBlock = some g) ∧ Below w.heap.size w W ∧ simpF kq cur i = simpF 200 l 0))
      case atStart => exact ⟨l, 0, rfl, by omega, h12, by omega, ⟨HV.out.1, HV.out.2.1, HV.out.2.2, rfl⟩⟩
      case round =>
        clear HV htl
        obtain ⟨cur, i, rfl, hi, h12c, hms, HV⟩ := hrel
        cases gk with
        | zero => omega
        | succ k1 =>
          have hsf := HV.out.2.2.2
          rw [simpF_succ] at hsf
          by_cases hlt : i < cur.length
          · rw [if_pos hlt] at hsf
            have q1 : decide ((i : Int) < (cur.length : Int)) = true := decide_eq_true (by omega)
            obtain ⟨gg, cc, e, _, _, _⟩ := Kd.S_form HV.out.1 (by omega)
            subst e
            obtain ⟨_, hcc, hC⟩ := Kd.S_reads' HV.out.1
            have hne : ¬ cc = i := by omega
            have hcl := cancelN_le (cur.drop i)
            rw [List.length_drop] at hcl
            have hCd := Kd.C_drop (m := i) (c := cc) hC (by omega) hcc
            rw [if_neg hne, Option.map_some, add_plain] at hCd
            have hcn := impl_cancelling.calls (some ⟨gg, i * 6, none⟩) (cc - i) (cur.drop i) (cancelN (cur.drop i) : Int) wr hCd (by rw [List.length_drop]; omega) (by unfold impl_cancelling.f; rw [if_pos (by rw [List.length_drop]; omega)])
            rw [List.length_drop] at hcn
            have HCN := Aside0.mk hcn
            have RO := Aside0.mk HV.out.1
            have HBW := Aside0.mk HV.out.2.2.1
            clear hC hCd hcn HV
            have hil : (i : Int) ≤ (cur.length : Int) := by omega
            by_cases hz : cancelN (cur.drop i) = 0
            · rw [if_pos hz] at hsf
              rw [hz] at HCN
              have HSF := Aside0.mk hsf
              clear hsf hz hcl
              go_wp2_with (first
                | (go_at_call 71; (with_reducible refine (HCN.out).mono ?_); rintro e w2 ⟨rfl, hb⟩; have RO2 := Aside0.mk (Kd.S_below RO.out hb); have HB2 := Aside0.mk (below_then HBW.out HBW.out.size hb); clear hb))
              go_roundg k1
              case measure => omega
              case rel => exact ⟨cur, i + 1, by go_num, by omega, h12c, by omega, ⟨RO2.out, ⟨gg, rfl⟩, HB2.out, HSF.out⟩⟩
            · rw [if_neg hz] at hsf
              generalize cancelN (cur.drop i) = mm at *
              have HSF := Aside0.mk hsf
              have hmz : decide ((mm : Int) = 0) = false := decide_eq_false (by omega)
              have hmz2 : ((mm : Int) == 0) = false := by simpa using hz
              have hwp : IntKind.i64.wrap ((i : Int) + (mm : Int)) = (i : Int) + (mm : Int) := by rw [IntKind.wrap_i64]; omega
              clear hsf
              go_wp2_with (first
                | (go_at_call 71; (with_reducible refine (HCN.out).mono ?_); rintro e w2 ⟨rfl, hb⟩; have RO2 := Aside0.mk (Kd.S_below RO.out hb); have HB2 := Aside0.mk (below_then HBW.out HBW.out.size hb); clear hb)
                | (go_at_call 72; obtain ⟨fT, hfT⟩ := RO2.out; have hdl := delete_calls fT cur.length cc gg w.heap.size (fun _ => True) cur.zipIdx i (i + mm) (by omega) (by omega) w2 HB2.out.size hfT; rw [Int.natCast_add] at hdl; (with_reducible refine hdl.mono ?_); clear hdl; rintro e w3 ⟨rfl, hR, hb⟩; have RO3 := Aside0.mk (S_cut i (i + mm) (by omega) (by omega) hR); clear hfT; have HB3 := Aside0.mk (below_weaken HB2.out (Nat.le_refl _) hb); clear hR hb))
              go_roundg k1
              case measure => omega
              case rel =>
                have hln : (cur.take i ++ cur.drop (i + mm)).length = cur.length - mm := by rw [List.length_append, List.length_take, List.length_drop]; omega
                exact ⟨cur.take i ++ cur.drop (i + mm), 0, by go_num, by omega, by omega, by omega, ⟨by have h := RO3.out; rw [Nat.add_sub_cancel_left] at h; exact h, ⟨gg, rfl⟩, HB3.out, HSF.out⟩⟩
          · rw [if_neg hlt] at hsf
            have q1 : decide ((i : Int) < (cur.length : Int)) = false := decide_eq_false (by omega)
            obtain ⟨A3, c3, e3⟩ := Kd.S_slice HV.out.1
            subst e3
            subst hsf
            go_wp2
            go_ret
            exact ⟨_, rfl, HV.out.1, HV.out.2.2.1⟩
theorem impl_SimplifySteps.callsS (A0 : Option Addr) (c0 : Nat) (l0 : List S59) (r : List S59) (w : World) (hr0 : Kd.C k59 w A0 l0.length l0) (hc0 : l0.length ≤ c0) (h : impl_SimplifySteps.f l0 = some r) :
    Calls Try.prog 38 #[.slice A0 l0.length c0] w fun e w' => ∃ v0_ : Value, e = .returned (v0_) ∧ Kd.S k59 59 w' w.heap.size (fun _ => True) v0_ r ∧ Below w.heap.size w w' := by
  unfold impl_SimplifySteps.f at h
  by_cases ha : l0.all (fun s => decide (s.f2.length ≤ 2000000)) = true
  · rw [if_pos ha] at h
    by_cases h12 : 12 < l0.length
    · rw [if_pos h12] at h
      obtain rfl := Option.some.inj h
      have q12 : decide ((l0.length : Int) > 12) = true := decide_eq_true (by omega)
      have q12b : decide (12 < l0.length) = true := decide_eq_true (by omega)
      clear hr0
      go_enter Try.func38, Try.ntmps38
      go_wp2
      go_ret
      exact ⟨_, rfl, Kd.S_nil _ _ _ _ _, Below.refl _ _⟩
    · rw [if_neg h12] at h
      obtain rfl := Option.some.inj h
      exact simp_some A0 c0 l0 w hr0 (by omega) (fun s hs => by
        have := List.all_eq_true.1 ha s hs
        simpa using this)
  · rw [if_neg ha] at h; cases h
theorem impl_SimplifySteps.calls (A0 : Option Addr) (c0 : Nat) (l0 : List S59) (r : List S59) (w : World) (hr0 : Kd.C k59 w A0 l0.length l0) (hc0 : l0.length ≤ c0) (h : impl_SimplifySteps.f l0 = some r) :
    Calls Try.prog 38 #[.slice A0 l0.length c0] w fun e w' => ∃ v0_ : Value, e = .returned (v0_) ∧ Kd.R k59 59 w' w.heap.size (fun _ => True) v0_ r ∧ Below w.heap.size w w' := by
  refine (impl_SimplifySteps.callsS A0 c0 l0 r w hr0 hc0 h).mono ?_
  rintro e w' ⟨v0_, h1, h2, h3⟩
  exact ⟨v0_, h1, Kd.S_R h2, h3⟩
end Go.Proofs.Ytgfjccegehnjcaa.Q
