/- A part of the proof that the statement FnSimplifyStepsSaid holds, under no condition of its own: Steps that cancel each other are left out, and the image stays what it was: the law FnSimplifySteps over lists of numbers alone. -/
import Derived.Test.YtgccpcnakkioiaaCFnSimplifySteps1
import Derived.Test.YtgccpcnakkioiaaCFnSimplifySteps2
import Derived.Test.YtgccpcnakkioiaaCFnSimplifySteps4
import Derived.Test.YtgccpcnakkioiaaCFnSimplifySteps3
import Derived.Test.YtgccpcnakkioiaaRows
import Derived.JoinedOf
import Derived.KernelRfl
import Derived.WalkKit
import Derived.ProofKit
import Derived.OpenShut
import Derived.ShutString
import Derived.ChangeOld
import Derived.Below
import Derived.SizedLaws
import Derived.Test.YtgccpcnakkioiaaCFnSimplifyStepsW1
namespace Go.Proofs.Ytgccpcnakkioiaa.Q
open Go.RowKit Go.Proofs.YtgccpcnakkioiaaW.PrintWords Go.Proofs.YtgccpcnakkioiaaW.PrintLast Go.Proofs.YtgccpcnakkioiaaW.PrintMore
attribute [local go_sem] max2_int min2_int max_two min_two max_three min_three max_four min_four
set_option linter.unusedVariables false
set_option linter.unusedSimpArgs false
open Go.Proofs.YtgccpcnakkioiaaW.PrintWords.Aside0 (mk)
set_option maxHeartbeats 12000000
set_option maxRecDepth 100000
def laws_FnSimplifySteps.j0 : Nat → List (S43) → Int → Int → Bool → Int → Int → Int → List Int → Int → Int → Int → List Int → Int → Int → Int → List Int → Option (Bool)
 | 0, _, _, _, _, _, _, _, _, _, _, _, _, _, _, _, _ => none
 | k + 1, x4, x6, x8, x46, x10011000, x10011001, x10011002, x10011003, x10019000, x10019001, x10019002, x10019003, x10027000, x10027001, x10027002, x10027003 => if x46 = true then ((laws_equalImage.f k x10019000 x10019001 x10019002 x10019003 x10027000 x10027001 x10027002 x10027003).bind fun t10028 => (if t10028 = true then (some (x6 == x8)) else (some false))) else ((impl_SimplifySteps.f x4).bind fun t10029 => ((impl_RunSteps.f k x10011000 x10011001 x10011002 x10011003 t10029).bind fun bt10032 => (if bt10032.2.2.2.2 = (t10029.length : Int) then ((laws_equalImage.f k bt10032.1 bt10032.2.1 bt10032.2.2.1 bt10032.2.2.2.1 x10019000 x10019001 x10019002 x10019003).bind fun t10040 => (if t10040 = true then (some (decide ((t10029.length : Int) ≤ (x4.length : Int)))) else (some false))) else (some false))))
def laws_FnSimplifySteps.f (k : Nat) (l0 : List Int) : Option (Bool) := if (l0.length : Int) > 1048576 then (some true) else ((spec_DrawRunSteps.f k l0).bind fun bt10001 => ((impl_RunSteps.f k bt10001.1 bt10001.2.1 bt10001.2.2.1 bt10001.2.2.2.1 bt10001.2.2.2.2).bind fun bt10011 => ((spec_RunSteps.f k bt10001.1 bt10001.2.1 bt10001.2.2.1 bt10001.2.2.2.1 bt10001.2.2.2.2).bind fun bt10019 => ((laws_equalImage.f k bt10011.1 bt10011.2.1 bt10011.2.2.1 bt10011.2.2.2.1 bt10019.1 bt10019.2.1 bt10019.2.2.1 bt10019.2.2.2.1).bind fun t10027 => (if t10027 = true then (if bt10011.2.2.2.2 = bt10019.2.2.2.2 then (laws_FnSimplifySteps.j0 k bt10001.2.2.2.2 bt10011.2.2.2.2 bt10019.2.2.2.2 (bt10011.2.2.2.2 != (bt10001.2.2.2.2.length : Int)) bt10001.1 bt10001.2.1 bt10001.2.2.1 bt10001.2.2.2.1 bt10011.1 bt10011.2.1 bt10011.2.2.1 bt10011.2.2.2.1 bt10019.1 bt10019.2.1 bt10019.2.2.1 bt10019.2.2.2.1) else (laws_FnSimplifySteps.j0 k bt10001.2.2.2.2 bt10011.2.2.2.2 bt10019.2.2.2.2 true bt10001.1 bt10001.2.1 bt10001.2.2.1 bt10001.2.2.2.1 bt10011.1 bt10011.2.1 bt10011.2.2.1 bt10011.2.2.2.1 bt10019.1 bt10019.2.1 bt10019.2.2.1 bt10019.2.2.2.1)) else (laws_FnSimplifySteps.j0 k bt10001.2.2.2.2 bt10011.2.2.2.2 bt10019.2.2.2.2 true bt10001.1 bt10001.2.1 bt10001.2.2.1 bt10001.2.2.2.1 bt10011.1 bt10011.2.1 bt10011.2.2.1 bt10011.2.2.2.1 bt10019.1 bt10019.2.1 bt10019.2.2.1 bt10019.2.2.2.1))))))
theorem laws_FnSimplifySteps.calls (k : Nat) (A0 : Option Addr) (c0 : Nat) (l0 : List Int) (r : Bool) (w : World) (hr0 : Kd.C (Kd.int .u8) w A0 l0.length l0) (hc0 : l0.length ≤ c0) (h : laws_FnSimplifySteps.f k l0 = some r) (hrt : r = true) :
  Calls Try.prog 9 #[.slice A0 l0.length c0] w fun e w' => e = .returned (.bool r) ∧ Below w.heap.size w w' := by
 have HRT := mk hrt
 clear hrt
 have hu28 := Try.underlying28
 have HR0 := mk hr0
 have HC0 := mk hc0
 clear hr0 hc0
 have HB := mk (Below.refl w.heap.size w)
 have H : (if (l0.length : Int) > 1048576 then (some true) else ((spec_DrawRunSteps.f k l0).bind fun bt10001 => ((impl_RunSteps.f k bt10001.1 bt10001.2.1 bt10001.2.2.1 bt10001.2.2.2.1 bt10001.2.2.2.2).bind fun bt10011 => ((spec_RunSteps.f k bt10001.1 bt10001.2.1 bt10001.2.2.1 bt10001.2.2.2.1 bt10001.2.2.2.2).bind fun bt10019 => ((laws_equalImage.f k bt10011.1 bt10011.2.1 bt10011.2.2.1 bt10011.2.2.2.1 bt10019.1 bt10019.2.1 bt10019.2.2.1 bt10019.2.2.2.1).bind fun t10027 => (if t10027 = true then (if bt10011.2.2.2.2 = bt10019.2.2.2.2 then (laws_FnSimplifySteps.j0 k bt10001.2.2.2.2 bt10011.2.2.2.2 bt10019.2.2.2.2 (bt10011.2.2.2.2 != (bt10001.2.2.2.2.length : Int)) bt10001.1 bt10001.2.1 bt10001.2.2.1 bt10001.2.2.2.1 bt10011.1 bt10011.2.1 bt10011.2.2.1 bt10011.2.2.2.1 bt10019.1 bt10019.2.1 bt10019.2.2.1 bt10019.2.2.2.1) else (laws_FnSimplifySteps.j0 k bt10001.2.2.2.2 bt10011.2.2.2.2 bt10019.2.2.2.2 true bt10001.1 bt10001.2.1 bt10001.2.2.1 bt10001.2.2.2.1 bt10011.1 bt10011.2.1 bt10011.2.2.1 bt10011.2.2.2.1 bt10019.1 bt10019.2.1 bt10019.2.2.1 bt10019.2.2.2.1)) else (laws_FnSimplifySteps.j0 k bt10001.2.2.2.2 bt10011.2.2.2.2 bt10019.2.2.2.2 true bt10001.1 bt10001.2.1 bt10001.2.2.1 bt10001.2.2.2.1 bt10011.1 bt10011.2.1 bt10011.2.2.1 bt10011.2.2.2.1 bt10019.1 bt10019.2.1 bt10019.2.2.1 bt10019.2.2.2.1))))))) = some r := h
 clear h
 by_cases c2 : (l0.length : Int) > 1048576
 ·rw [if_pos c2] at H
  have c2b0 : decide (1048576 < (l0.length : Int)) = true := decide_eq_true c2
  have c2b1 : decide (1048576 < l0.length) = true := decide_eq_true (by omega)
  clear c2
  obtain rfl := Option.some.inj H
  go_enter Try.func9, Try.ntmps9
  go_wp2
  go_ret
  exact ⟨by first | rfl | (simp [errW_none, errW_some] <;> rfl) | (simp [*, errW_none, errW_some] <;> rfl), by repeat (first | (with_reducible first | exact HB.out | apply below_alloc | apply pw_below_drewN | apply below_drew1) | exact HB.out)⟩
 ·rw [if_neg c2] at H
  have c2b0 : decide (1048576 < (l0.length : Int)) = false := decide_eq_false c2
  have c2b1 : decide (1048576 < l0.length) = false := decide_eq_false (by omega)
  clear c2
  replace H := Option.bind_eq_some_iff.mp H
  obtain ⟨⟨t10001, t10002, t10003, t10004, t10007⟩, A30, H⟩ := H
  replace H : ((impl_RunSteps.f k t10001 t10002 t10003 t10004 t10007).bind fun bt10011 => ((spec_RunSteps.f k t10001 t10002 t10003 t10004 t10007).bind fun bt10019 => ((laws_equalImage.f k bt10011.1 bt10011.2.1 bt10011.2.2.1 bt10011.2.2.2.1 bt10019.1 bt10019.2.1 bt10019.2.2.1 bt10019.2.2.2.1).bind fun t10027 => (if t10027 = true then (if bt10011.2.2.2.2 = bt10019.2.2.2.2 then (laws_FnSimplifySteps.j0 k t10007 bt10011.2.2.2.2 bt10019.2.2.2.2 (bt10011.2.2.2.2 != (t10007.length : Int)) t10001 t10002 t10003 t10004 bt10011.1 bt10011.2.1 bt10011.2.2.1 bt10011.2.2.2.1 bt10019.1 bt10019.2.1 bt10019.2.2.1 bt10019.2.2.2.1) else (laws_FnSimplifySteps.j0 k t10007 bt10011.2.2.2.2 bt10019.2.2.2.2 true t10001 t10002 t10003 t10004 bt10011.1 bt10011.2.1 bt10011.2.2.1 bt10011.2.2.2.1 bt10019.1 bt10019.2.1 bt10019.2.2.1 bt10019.2.2.2.1)) else (laws_FnSimplifySteps.j0 k t10007 bt10011.2.2.2.2 bt10019.2.2.2.2 true t10001 t10002 t10003 t10004 bt10011.1 bt10011.2.1 bt10011.2.2.1 bt10011.2.2.2.1 bt10019.1 bt10019.2.1 bt10019.2.2.1 bt10019.2.2.2.1))))) = some r := H
  have A3 := mk A30
  clear A30
  replace H := Option.bind_eq_some_iff.mp H
  obtain ⟨⟨t10011, t10012, t10013, t10014, t10017⟩, A40, H⟩ := H
  replace H : ((spec_RunSteps.f k t10001 t10002 t10003 t10004 t10007).bind fun bt10019 => ((laws_equalImage.f k t10011 t10012 t10013 t10014 bt10019.1 bt10019.2.1 bt10019.2.2.1 bt10019.2.2.2.1).bind fun t10027 => (if t10027 = true then (if t10017 = bt10019.2.2.2.2 then (laws_FnSimplifySteps.j0 k t10007 t10017 bt10019.2.2.2.2 (t10017 != (t10007.length : Int)) t10001 t10002 t10003 t10004 t10011 t10012 t10013 t10014 bt10019.1 bt10019.2.1 bt10019.2.2.1 bt10019.2.2.2.1) else (laws_FnSimplifySteps.j0 k t10007 t10017 bt10019.2.2.2.2 true t10001 t10002 t10003 t10004 t10011 t10012 t10013 t10014 bt10019.1 bt10019.2.1 bt10019.2.2.1 bt10019.2.2.2.1)) else (laws_FnSimplifySteps.j0 k t10007 t10017 bt10019.2.2.2.2 true t10001 t10002 t10003 t10004 t10011 t10012 t10013 t10014 bt10019.1 bt10019.2.1 bt10019.2.2.1 bt10019.2.2.2.1)))) = some r := H
  have A4 := mk A40
  clear A40
  replace H := Option.bind_eq_some_iff.mp H
  obtain ⟨⟨t10019, t10020, t10021, t10022, t10025⟩, A50, H⟩ := H
  replace H : ((laws_equalImage.f k t10011 t10012 t10013 t10014 t10019 t10020 t10021 t10022).bind fun t10027 => (if t10027 = true then (if t10017 = t10025 then (laws_FnSimplifySteps.j0 k t10007 t10017 t10025 (t10017 != (t10007.length : Int)) t10001 t10002 t10003 t10004 t10011 t10012 t10013 t10014 t10019 t10020 t10021 t10022) else (laws_FnSimplifySteps.j0 k t10007 t10017 t10025 true t10001 t10002 t10003 t10004 t10011 t10012 t10013 t10014 t10019 t10020 t10021 t10022)) else (laws_FnSimplifySteps.j0 k t10007 t10017 t10025 true t10001 t10002 t10003 t10004 t10011 t10012 t10013 t10014 t10019 t10020 t10021 t10022))) = some r := H
  have A5 := mk A50
  clear A50
  have HC6 := mk H
  clear H
  go_enter Try.func9, Try.ntmps9
  go_upto_region 6 with (first | ((with_reducible refine gate_callee (f := 36) rfl ?_); refine goesL_ (some 17) rfl rfl Try.func36 (by kernel_rfl) rfl #[.slice A0 l0.length c0] rfl (by (try simp only [List.map_toArray, List.map_cons, List.map_nil]); first | done | rfl | (simp only [List.length_drop, List.length_take]; rfl)) ?_; (with_reducible refine (spec_DrawRunSteps.calls k _ _ l0 t10001 t10002 t10003 t10004 t10007 _ ?side1 ?side2 A3.out).mono ?_); (case side1 => repeat (first | exact HR0.out | (with_reducible refine Kd.C_alloc ?_ _) | (with_reducible refine Kd.C_drewN ?_ _) | (with_reducible refine Kd.C_drew ?_))); (case side2 => exact HC0.out); rintro e w7 ⟨v10005, v10008, rfl, ho0, ho1, hb⟩; refine ⟨_, rfl, ?_⟩; have n0_ := mk (Kd.Q_lower (Kd.Q_mono (ok' := fun k_ => True) ho0 (fun _ hk_ => trivial)) (below_size (by repeat (first | (with_reducible first | exact HB.out | apply below_alloc | apply pw_below_drewN | apply below_drew1) | exact HB.out)))); have n1_ := mk (Kd.N_lower (Kd.N_mono (ok' := fun k_ => some k_ ≠ (v10005 : Value).ownBlock) ho1 (fun k_ hk_ => hk_.2)) (below_size (by repeat (first | (with_reducible first | exact HB.out | apply below_alloc | apply pw_below_drewN | apply below_drew1) | exact HB.out)))); have n2_ := mk (below_step (by repeat (first | (with_reducible first | exact HB.out | apply below_alloc | apply pw_below_drewN | apply below_drew1) | exact HB.out)) hb); clear HB; have HO10006 := n0_; have HO10009 := n1_; have HB := n2_; clear n0_ n1_ n2_; (try clear hb); (try clear hb2); (try clear hk); (try clear hi); (try clear ho0); (try clear ho1)) | ((with_reducible refine gate_dst (N := 3) rfl ?_); (try (refine gate_guard (by rfl) ?_; dsimp only)); refine box_event ?hg (N := 3) ?hd (cs := #[.int .i64 0, .int .i64 0, .int .i64 0, .slice none 0 0]) (t := 28) ?hr ?_; (case hd => rfl); (case hg => rfl); (case hr => first | (go_simp; done) | (go_simp; rfl)); intro gb10010 hg w8 hbox hb; have n0_ := mk (Kd.Q_below (by (with_reducible repeat (first | apply Kd.Q_alloc | apply Kd.Q_drewN | apply Kd.Q_drew)); exact HO10006.out) hb); have n1_ := mk (Kd.N_below (Kd.N_elderB (by (with_reducible repeat (first | apply Kd.N_alloc | apply Kd.N_drewN | apply Kd.N_drew)); exact HO10009.out) gb10010 (Nat.le_of_eq hg.symm)) hb); have n2_ := mk (below_step (by repeat (first | (with_reducible first | exact HB.out | apply below_alloc | apply pw_below_drewN | apply below_drew1) | exact HB.out)) hb); have n3_ := mk (hbox); have n4_ := mk ((by rw [hg]; exact (below_size (by repeat (first | (with_reducible first | exact HB.out | apply below_alloc | apply pw_below_drewN | apply below_drew1) | exact HB.out))) : w.heap.size ≤ gb10010)); have n5_ := mk ((by rw [hg]; exact (below_size (by repeat (first | (with_reducible first | exact HB.out | apply below_alloc | apply pw_below_drewN | apply below_drew1) | exact HB.out))) : w.heap.size ≤ gb10010)); clear HO10006; clear HO10009; clear HB; have HO10006 := n0_; have HO10009 := n1_; have HB := n2_; have BK10010 := n3_; have GW10010 := n4_; have GE10010 := n5_; clear n0_ n1_ n2_ n3_ n4_ n5_; clear hb hbox hg; have hcz9_0 : w8.cell? ⟨gb10010, 0, none⟩ = some (.int .i64 0) := (blk_cell BK10010.out 0).trans rfl; have hcz9_1 : w8.cell? ⟨gb10010, 1, none⟩ = some (.int .i64 0) := (blk_cell BK10010.out 1).trans rfl; have hcz9_2 : w8.cell? ⟨gb10010, 2, none⟩ = some (.int .i64 0) := (blk_cell BK10010.out 2).trans rfl; have hcz9_3 : w8.cell? ⟨gb10010, 3, none⟩ = some (.slice none 0 0) := (blk_cell BK10010.out 3).trans rfl; have hfz9_0 := blk_frozen BK10010.out 0; have hfz9_1 := blk_frozen BK10010.out 1; have hfz9_2 := blk_frozen BK10010.out 2; have hfz9_3 := blk_frozen BK10010.out 3; obtain ⟨Ao10, co10, eo10, _⟩ := Kd.Q_slice HO10006.out; subst eo10; obtain ⟨Ao11, co11, eo11⟩ := Kd.N_slice HO10009.out; subst eo11) | ((with_reducible refine gate_callee (f := 15) rfl ?_); refine goesL_ (some 23) rfl rfl Try.func15 (by kernel_rfl) rfl #[.agg #[.int .i64 t10001, .int .i64 t10002, .int .i64 t10003, .slice Ao10 t10004.length co10], .slice Ao11 t10007.length co11] rfl (by (try simp only [List.map_toArray, List.map_cons, List.map_nil]); first | done | rfl | (simp only [List.length_drop, List.length_take]; rfl)) ?_; (with_reducible refine (impl_RunSteps.calls k t10001 t10002 t10003 _ _ t10004 _ _ t10007 t10011 t10012 t10013 t10014 t10017 _ ?side1 ?side2 ?side3 ?side4 A4.out).mono ?_); (case side1 => refine (Kd.Q_reads' (e := 3) (base := w.heap.size) (ok := fun k_ => True) (n := t10004.length) (c := co10) ?_).2.2; exact (by (with_reducible repeat (first | apply Kd.Q_alloc | apply Kd.Q_drewN | apply Kd.Q_drew)); exact (Kd.Q_mono (Kd.Q_far (p := ⟨gb10010, 3, none⟩) (Kd.Q_far (p := ⟨gb10010, 2, none⟩) (Kd.Q_far (p := ⟨gb10010, 1, none⟩) (Kd.Q_far (p := ⟨gb10010, 0, none⟩) (Kd.Q_types HO10006.out BK10010.out (by decide)) (fun _ hk => hk.2) (.int .i64 t10001)) (fun _ hk => hk.2) (.int .i64 t10002)) (fun _ hk => hk.2) (.int .i64 t10003)) (fun _ hk => hk.2) (.slice Ao10 t10004.length co10)) (fun _ h_ => h_.1)))); (case side2 => exact (Kd.Q_reads' HO10006.out).2.1); (case side3 => refine (Kd.N_reads' (e := 43) (base := w.heap.size) (ok := fun k_ => (some k_ ≠ (.slice Ao10 t10004.length co10 : Value).ownBlock ∧ k_ ≠ gb10010)) (n := t10007.length) (c := co11) ?_).2.2; exact (by (with_reducible repeat (first | apply Kd.N_alloc | apply Kd.N_drewN | apply Kd.N_drew)); exact (Kd.N_mono (Kd.N_far (p := ⟨gb10010, 3, none⟩) (Kd.N_far (p := ⟨gb10010, 2, none⟩) (Kd.N_far (p := ⟨gb10010, 1, none⟩) (Kd.N_far (p := ⟨gb10010, 0, none⟩) (Kd.N_mono HO10009.out (fun k_ hk => (⟨hk, hk.2⟩ : _ ∧ k_ ≠ gb10010))) (fun _ hk => hk.2) (.int .i64 t10001)) (fun _ hk => hk.2) (.int .i64 t10002)) (fun _ hk => hk.2) (.int .i64 t10003)) (fun _ hk => hk.2) (.slice Ao10 t10004.length co10)) (fun _ h_ => h_.1)))); (case side4 => exact (Kd.N_reads' HO10009.out).2.1); rintro e w12 ⟨v10015, rfl, ho0, hb⟩; refine ⟨_, rfl, ?_⟩; have n0_ := mk (Kd.Q_elder' (by (with_reducible repeat (first | apply Kd.Q_alloc | apply Kd.Q_drewN | apply Kd.Q_drew)); exact (Kd.Q_mono (Kd.Q_far (p := ⟨gb10010, 3, none⟩) (Kd.Q_far (p := ⟨gb10010, 2, none⟩) (Kd.Q_far (p := ⟨gb10010, 1, none⟩) (Kd.Q_far (p := ⟨gb10010, 0, none⟩) (Kd.Q_types HO10006.out BK10010.out (by decide)) (fun _ hk => hk.2) (.int .i64 t10001)) (fun _ hk => hk.2) (.int .i64 t10002)) (fun _ hk => hk.2) (.int .i64 t10003)) (fun _ hk => hk.2) (.slice Ao10 t10004.length co10)) (fun _ h_ => h_.1))) (Kd.R_base ho0) hb); have n1_ := mk (Kd.N_elder' (by (with_reducible repeat (first | apply Kd.N_alloc | apply Kd.N_drewN | apply Kd.N_drew)); exact (Kd.N_mono (Kd.N_far (p := ⟨gb10010, 3, none⟩) (Kd.N_far (p := ⟨gb10010, 2, none⟩) (Kd.N_far (p := ⟨gb10010, 1, none⟩) (Kd.N_far (p := ⟨gb10010, 0, none⟩) (Kd.N_mono HO10009.out (fun k_ hk => (⟨hk, hk.2⟩ : _ ∧ k_ ≠ gb10010))) (fun _ hk => hk.2) (.int .i64 t10001)) (fun _ hk => hk.2) (.int .i64 t10002)) (fun _ hk => hk.2) (.int .i64 t10003)) (fun _ hk => hk.2) (.slice Ao10 t10004.length co10)) (fun _ h_ => h_.1))) (Kd.R_base ho0) hb); have n2_ := mk (Kd.R_lower (Kd.R_new' ho0 (Kd.Q_lt (by (with_reducible repeat (first | apply Kd.Q_alloc | apply Kd.Q_drewN | apply Kd.Q_drew)); exact (Kd.Q_mono (Kd.Q_far (p := ⟨gb10010, 3, none⟩) (Kd.Q_far (p := ⟨gb10010, 2, none⟩) (Kd.Q_far (p := ⟨gb10010, 1, none⟩) (Kd.Q_far (p := ⟨gb10010, 0, none⟩) (Kd.Q_types HO10006.out BK10010.out (by decide)) (fun _ hk => hk.2) (.int .i64 t10001)) (fun _ hk => hk.2) (.int .i64 t10002)) (fun _ hk => hk.2) (.int .i64 t10003)) (fun _ hk => hk.2) (.slice Ao10 t10004.length co10)) (fun _ h_ => h_.1))))) (below_size (by repeat (first | (with_reducible first | exact HB.out | apply below_alloc | apply pw_below_drewN | apply below_drew1 | refine below_set ?_ GE10010.out) | exact HB.out)))); have n3_ := mk (blk_below (g := gb10010) (o := .cells #[.int .i64 t10001, .int .i64 t10002, .int .i64 t10003, .slice Ao10 t10004.length co10] 28 (0, 0)) (by (with_reducible repeat (first | refine blk_drewN ?_ _ | refine blk_drew ?_ | refine blk_alloc ?_ _)); refine blk_put (cs := #[.int .i64 t10001, .int .i64 t10002, .int .i64 t10003, .slice none 0 0]) ?_ 3 _ rfl; (with_reducible repeat (first | refine blk_drewN ?_ _ | refine blk_drew ?_ | refine blk_alloc ?_ _)); refine blk_put (cs := #[.int .i64 t10001, .int .i64 t10002, .int .i64 0, .slice none 0 0]) ?_ 2 _ rfl; (with_reducible repeat (first | refine blk_drewN ?_ _ | refine blk_drew ?_ | refine blk_alloc ?_ _)); refine blk_put (cs := #[.int .i64 t10001, .int .i64 0, .int .i64 0, .slice none 0 0]) ?_ 1 _ rfl; (with_reducible repeat (first | refine blk_drewN ?_ _ | refine blk_drew ?_ | refine blk_alloc ?_ _)); refine blk_put (cs := #[.int .i64 0, .int .i64 0, .int .i64 0, .slice none 0 0]) ?_ 0 _ rfl; (with_reducible repeat (first | refine blk_drewN ?_ _ | refine blk_drew ?_ | refine blk_alloc ?_ _)); exact BK10010.out) hb); have n4_ := mk (below_step (by repeat (first | (with_reducible first | exact HB.out | apply below_alloc | apply pw_below_drewN | apply below_drew1 | refine below_set ?_ GE10010.out) | exact HB.out)) hb); clear HO10006; clear HO10009; clear BK10010; clear HB; have HO10006 := n0_; have HO10009 := n1_; have HO10016 := n2_; have BK10010 := n3_; have HB := n4_; clear n0_ n1_ n2_ n3_ n4_; (try clear hb); (try clear hb2); (try clear hk); (try clear hi); (try clear ho0)) | ((with_reducible refine gate_dst (N := 5) rfl ?_); (try (refine gate_guard (by rfl) ?_; dsimp only)); refine box_event ?hg (N := 5) ?hd (cs := #[.int .i64 0, .int .i64 0, .int .i64 0, .slice none 0 0]) (t := 28) ?hr ?_; (case hd => rfl); (case hg => rfl); (case hr => first | (go_simp; done) | (go_simp; rfl)); intro gb10018 hg w13 hbox hb; have n0_ := mk (Kd.Q_below (by (with_reducible repeat (first | apply Kd.Q_alloc | apply Kd.Q_drewN | apply Kd.Q_drew)); exact HO10006.out) hb); have n1_ := mk (Kd.N_below (Kd.N_elderB (by (with_reducible repeat (first | apply Kd.N_alloc | apply Kd.N_drewN | apply Kd.N_drew)); exact HO10009.out) gb10018 (Nat.le_of_eq hg.symm)) hb); have n2_ := mk (Kd.R_below (by (with_reducible repeat (first | apply Kd.R_alloc | apply Kd.R_drewN | apply Kd.R_drew)); exact HO10016.out) hb); have n3_ := mk (blk_below (g := gb10010) (o := .cells #[.int .i64 t10001, .int .i64 t10002, .int .i64 t10003, .slice Ao10 t10004.length co10] 28 (0, 0)) (by (with_reducible repeat (first | refine blk_drewN ?_ _ | refine blk_drew ?_ | refine blk_alloc ?_ _)); exact BK10010.out) hb); have n4_ := mk (below_step (by repeat (first | (with_reducible first | exact HB.out | apply below_alloc | apply pw_below_drewN | apply below_drew1 | refine below_set ?_ GE10010.out) | exact HB.out)) hb); have n5_ := mk (hbox); have n6_ := mk ((by rw [hg]; exact (below_size (by repeat (first | (with_reducible first | exact HB.out | apply below_alloc | apply pw_below_drewN | apply below_drew1 | refine below_set ?_ GE10010.out) | exact HB.out))) : w.heap.size ≤ gb10018)); have n7_ := mk ((by rw [hg]; exact (below_size (by repeat (first | (with_reducible first | exact HB.out | apply below_alloc | apply pw_below_drewN | apply below_drew1 | refine below_set ?_ GE10010.out) | exact HB.out))) : w.heap.size ≤ gb10018)); have n8_ := mk ((by rw [hg]; exact Nat.ne_of_lt (blk_lt (g := gb10010) (o := .cells #[.int .i64 t10001, .int .i64 t10002, .int .i64 t10003, .slice Ao10 t10004.length co10] 28 (0, 0)) (by (with_reducible repeat (first | refine blk_drewN ?_ _ | refine blk_drew ?_ | refine blk_alloc ?_ _)); exact BK10010.out)) : gb10010 ≠ gb10018)); have n9_ := mk ((by rw [hg]; exact Nat.ne_of_gt (blk_lt (g := gb10010) (o := .cells #[.int .i64 t10001, .int .i64 t10002, .int .i64 t10003, .slice Ao10 t10004.length co10] 28 (0, 0)) (by (with_reducible repeat (first | refine blk_drewN ?_ _ | refine blk_drew ?_ | refine blk_alloc ?_ _)); exact BK10010.out)) : gb10018 ≠ gb10010)); clear HO10006; clear HO10009; clear HO10016; clear BK10010; clear HB; have HO10006 := n0_; have HO10009 := n1_; have HO10016 := n2_; have BK10010 := n3_; have HB := n4_; have BK10018 := n5_; have GW10018 := n6_; have GE10018 := n7_; have NB10010_10018 := n8_; have NB10018_10010 := n9_; clear n0_ n1_ n2_ n3_ n4_ n5_ n6_ n7_ n8_ n9_; clear hb hbox hg; have hnb14 := NB10018_10010.out; have hnc14 := NB10010_10018.out; have hcz15_0 : w13.cell? ⟨gb10018, 0, none⟩ = some (.int .i64 0) := (blk_cell BK10018.out 0).trans rfl; have hcz15_1 : w13.cell? ⟨gb10018, 1, none⟩ = some (.int .i64 0) := (blk_cell BK10018.out 1).trans rfl; have hcz15_2 : w13.cell? ⟨gb10018, 2, none⟩ = some (.int .i64 0) := (blk_cell BK10018.out 2).trans rfl; have hcz15_3 : w13.cell? ⟨gb10018, 3, none⟩ = some (.slice none 0 0) := (blk_cell BK10018.out 3).trans rfl; have hfz15_0 := blk_frozen BK10018.out 0; have hfz15_1 := blk_frozen BK10018.out 1; have hfz15_2 := blk_frozen BK10018.out 2; have hfz15_3 := blk_frozen BK10018.out 3; obtain ⟨Ao16, co16, eo16⟩ := Kd.R_slice HO10016.out; subst eo16; have hcz17_0 : w13.cell? ⟨gb10010, 0, none⟩ = some (.int .i64 t10001) := (blk_cell BK10010.out 0).trans rfl; have hcz17_1 : w13.cell? ⟨gb10010, 1, none⟩ = some (.int .i64 t10002) := (blk_cell BK10010.out 1).trans rfl; have hcz17_2 : w13.cell? ⟨gb10010, 2, none⟩ = some (.int .i64 t10003) := (blk_cell BK10010.out 2).trans rfl; have hcz17_3 : w13.cell? ⟨gb10010, 3, none⟩ = some (.slice Ao10 t10004.length co10) := (blk_cell BK10010.out 3).trans rfl; have hfz17_0 := blk_frozen BK10010.out 0; have hfz17_1 := blk_frozen BK10010.out 1; have hfz17_2 := blk_frozen BK10010.out 2; have hfz17_3 := blk_frozen BK10010.out 3) | ((with_reducible refine gate_callee (f := 12) rfl ?_); refine goesL_ (some 29) rfl rfl Try.func12 (by kernel_rfl) rfl #[.agg #[.int .i64 t10001, .int .i64 t10002, .int .i64 t10003, .slice Ao10 t10004.length co10], .slice Ao11 t10007.length co11] rfl (by (try simp only [List.map_toArray, List.map_cons, List.map_nil]); first | done | rfl | (simp only [List.length_drop, List.length_take]; rfl)) ?_; (with_reducible refine (spec_RunSteps.calls k t10001 t10002 t10003 _ _ t10004 _ _ t10007 t10019 t10020 t10021 t10022 t10025 _ ?side1 ?side2 ?side3 ?side4 A5.out).mono ?_); (case side1 => refine (Kd.Q_reads' (e := 3) (base := w.heap.size) (ok := fun k_ => (True ∧ some k_ ≠ (.slice Ao16 t10014.length co16 : Value).ownBlock)) (n := t10004.length) (c := co10) ?_).2.2; exact (by (with_reducible repeat (first | apply Kd.Q_alloc | apply Kd.Q_drewN | apply Kd.Q_drew)); exact (Kd.Q_mono (Kd.Q_far (p := ⟨gb10018, 3, none⟩) (Kd.Q_far (p := ⟨gb10018, 2, none⟩) (Kd.Q_far (p := ⟨gb10018, 1, none⟩) (Kd.Q_far (p := ⟨gb10018, 0, none⟩) (Kd.Q_types HO10006.out BK10018.out (by decide)) (fun _ hk => hk.2) (.int .i64 t10011)) (fun _ hk => hk.2) (.int .i64 t10012)) (fun _ hk => hk.2) (.int .i64 t10013)) (fun _ hk => hk.2) (.slice Ao16 t10014.length co16)) (fun _ h_ => h_.1)))); (case side2 => exact (Kd.Q_reads' HO10006.out).2.1); (case side3 => refine (Kd.N_reads' (e := 43) (base := w.heap.size) (ok := fun k_ => (((some k_ ≠ (.slice Ao10 t10004.length co10 : Value).ownBlock ∧ k_ ≠ gb10010) ∧ some k_ ≠ (.slice Ao16 t10014.length co16 : Value).ownBlock) ∧ k_ ≠ gb10018)) (n := t10007.length) (c := co11) ?_).2.2; exact (by (with_reducible repeat (first | apply Kd.N_alloc | apply Kd.N_drewN | apply Kd.N_drew)); exact (Kd.N_mono (Kd.N_far (p := ⟨gb10018, 3, none⟩) (Kd.N_far (p := ⟨gb10018, 2, none⟩) (Kd.N_far (p := ⟨gb10018, 1, none⟩) (Kd.N_far (p := ⟨gb10018, 0, none⟩) (Kd.N_mono HO10009.out (fun k_ hk => (⟨hk, hk.2⟩ : _ ∧ k_ ≠ gb10018))) (fun _ hk => hk.2) (.int .i64 t10011)) (fun _ hk => hk.2) (.int .i64 t10012)) (fun _ hk => hk.2) (.int .i64 t10013)) (fun _ hk => hk.2) (.slice Ao16 t10014.length co16)) (fun _ h_ => h_.1)))); (case side4 => exact (Kd.N_reads' HO10009.out).2.1); rintro e w18 ⟨v10023, rfl, ho0, hb⟩; refine ⟨_, rfl, ?_⟩; have n0_ := mk (Kd.Q_elder' (by (with_reducible repeat (first | apply Kd.Q_alloc | apply Kd.Q_drewN | apply Kd.Q_drew)); exact (Kd.Q_mono (Kd.Q_far (p := ⟨gb10018, 3, none⟩) (Kd.Q_far (p := ⟨gb10018, 2, none⟩) (Kd.Q_far (p := ⟨gb10018, 1, none⟩) (Kd.Q_far (p := ⟨gb10018, 0, none⟩) (Kd.Q_types HO10006.out BK10018.out (by decide)) (fun _ hk => hk.2) (.int .i64 t10011)) (fun _ hk => hk.2) (.int .i64 t10012)) (fun _ hk => hk.2) (.int .i64 t10013)) (fun _ hk => hk.2) (.slice Ao16 t10014.length co16)) (fun _ h_ => h_.1))) (Kd.R_base ho0) hb); have n1_ := mk (Kd.N_elder' (by (with_reducible repeat (first | apply Kd.N_alloc | apply Kd.N_drewN | apply Kd.N_drew)); exact (Kd.N_mono (Kd.N_far (p := ⟨gb10018, 3, none⟩) (Kd.N_far (p := ⟨gb10018, 2, none⟩) (Kd.N_far (p := ⟨gb10018, 1, none⟩) (Kd.N_far (p := ⟨gb10018, 0, none⟩) (Kd.N_mono HO10009.out (fun k_ hk => (⟨hk, hk.2⟩ : _ ∧ k_ ≠ gb10018))) (fun _ hk => hk.2) (.int .i64 t10011)) (fun _ hk => hk.2) (.int .i64 t10012)) (fun _ hk => hk.2) (.int .i64 t10013)) (fun _ hk => hk.2) (.slice Ao16 t10014.length co16)) (fun _ h_ => h_.1))) (Kd.R_base ho0) hb); have n2_ := mk (Kd.R_elder' (by (with_reducible repeat (first | apply Kd.R_alloc | apply Kd.R_drewN | apply Kd.R_drew)); exact (Kd.R_mono (Kd.R_far (p := ⟨gb10018, 3, none⟩) (Kd.R_far (p := ⟨gb10018, 2, none⟩) (Kd.R_far (p := ⟨gb10018, 1, none⟩) (Kd.R_far (p := ⟨gb10018, 0, none⟩) (Kd.R_types HO10016.out BK10018.out (by decide)) (fun _ hk => hk.2) (.int .i64 t10011)) (fun _ hk => hk.2) (.int .i64 t10012)) (fun _ hk => hk.2) (.int .i64 t10013)) (fun _ hk => hk.2) (.slice Ao16 t10014.length co16)) (fun _ h_ => h_.1))) (Kd.R_base ho0) hb); have n3_ := mk (Kd.R_lower (Kd.R_new' (Kd.R_new' ho0 (Kd.Q_lt (by (with_reducible repeat (first | apply Kd.Q_alloc | apply Kd.Q_drewN | apply Kd.Q_drew)); exact (Kd.Q_mono (Kd.Q_far (p := ⟨gb10018, 3, none⟩) (Kd.Q_far (p := ⟨gb10018, 2, none⟩) (Kd.Q_far (p := ⟨gb10018, 1, none⟩) (Kd.Q_far (p := ⟨gb10018, 0, none⟩) (Kd.Q_types HO10006.out BK10018.out (by decide)) (fun _ hk => hk.2) (.int .i64 t10011)) (fun _ hk => hk.2) (.int .i64 t10012)) (fun _ hk => hk.2) (.int .i64 t10013)) (fun _ hk => hk.2) (.slice Ao16 t10014.length co16)) (fun _ h_ => h_.1))))) (Kd.R_lt (by (with_reducible repeat (first | apply Kd.R_alloc | apply Kd.R_drewN | apply Kd.R_drew)); exact (Kd.R_mono (Kd.R_far (p := ⟨gb10018, 3, none⟩) (Kd.R_far (p := ⟨gb10018, 2, none⟩) (Kd.R_far (p := ⟨gb10018, 1, none⟩) (Kd.R_far (p := ⟨gb10018, 0, none⟩) (Kd.R_types HO10016.out BK10018.out (by decide)) (fun _ hk => hk.2) (.int .i64 t10011)) (fun _ hk => hk.2) (.int .i64 t10012)) (fun _ hk => hk.2) (.int .i64 t10013)) (fun _ hk => hk.2) (.slice Ao16 t10014.length co16)) (fun _ h_ => h_.1))))) (below_size (by repeat (first | (with_reducible first | exact HB.out | apply below_alloc | apply pw_below_drewN | apply below_drew1 | refine below_set ?_ GE10010.out | refine below_set ?_ GE10018.out) | exact HB.out)))); have n4_ := mk (blk_below (g := gb10010) (o := .cells #[.int .i64 t10001, .int .i64 t10002, .int .i64 t10003, .slice Ao10 t10004.length co10] 28 (0, 0)) (by (with_reducible repeat (first | refine blk_drewN ?_ _ | refine blk_drew ?_ | refine blk_alloc ?_ _)); refine blk_far ?_ NB10010_10018.out _; (with_reducible repeat (first | refine blk_drewN ?_ _ | refine blk_drew ?_ | refine blk_alloc ?_ _)); refine blk_far ?_ NB10010_10018.out _; (with_reducible repeat (first | refine blk_drewN ?_ _ | refine blk_drew ?_ | refine blk_alloc ?_ _)); refine blk_far ?_ NB10010_10018.out _; (with_reducible repeat (first | refine blk_drewN ?_ _ | refine blk_drew ?_ | refine blk_alloc ?_ _)); refine blk_far ?_ NB10010_10018.out _; (with_reducible repeat (first | refine blk_drewN ?_ _ | refine blk_drew ?_ | refine blk_alloc ?_ _)); exact BK10010.out) hb); have n5_ := mk (blk_below (g := gb10018) (o := .cells #[.int .i64 t10011, .int .i64 t10012, .int .i64 t10013, .slice Ao16 t10014.length co16] 28 (0, 0)) (by (with_reducible repeat (first | refine blk_drewN ?_ _ | refine blk_drew ?_ | refine blk_alloc ?_ _)); refine blk_put (cs := #[.int .i64 t10011, .int .i64 t10012, .int .i64 t10013, .slice none 0 0]) ?_ 3 _ rfl; (with_reducible repeat (first | refine blk_drewN ?_ _ | refine blk_drew ?_ | refine blk_alloc ?_ _)); refine blk_put (cs := #[.int .i64 t10011, .int .i64 t10012, .int .i64 0, .slice none 0 0]) ?_ 2 _ rfl; (with_reducible repeat (first | refine blk_drewN ?_ _ | refine blk_drew ?_ | refine blk_alloc ?_ _)); refine blk_put (cs := #[.int .i64 t10011, .int .i64 0, .int .i64 0, .slice none 0 0]) ?_ 1 _ rfl; (with_reducible repeat (first | refine blk_drewN ?_ _ | refine blk_drew ?_ | refine blk_alloc ?_ _)); refine blk_put (cs := #[.int .i64 0, .int .i64 0, .int .i64 0, .slice none 0 0]) ?_ 0 _ rfl; (with_reducible repeat (first | refine blk_drewN ?_ _ | refine blk_drew ?_ | refine blk_alloc ?_ _)); exact BK10018.out) hb); have n6_ := mk (below_step (by repeat (first | (with_reducible first | exact HB.out | apply below_alloc | apply pw_below_drewN | apply below_drew1 | refine below_set ?_ GE10010.out | refine below_set ?_ GE10018.out) | exact HB.out)) hb); clear HO10006; clear HO10009; clear HO10016; clear BK10010; clear BK10018; clear HB; have HO10006 := n0_; have HO10009 := n1_; have HO10016 := n2_; have HO10024 := n3_; have BK10010 := n4_; have BK10018 := n5_; have HB := n6_; clear n0_ n1_ n2_ n3_ n4_ n5_ n6_; (try clear hb); (try clear hb2); (try clear hk); (try clear hi); (try clear ho0)) | ((with_reducible refine gate_dst (N := 7) rfl ?_); (try (refine gate_guard (by rfl) ?_; dsimp only)); refine box_event ?hg (N := 7) ?hd (cs := #[.int .i64 0, .int .i64 0, .int .i64 0, .slice none 0 0]) (t := 28) ?hr ?_; (case hd => rfl); (case hg => rfl); (case hr => first | (go_simp; done) | (go_simp; rfl)); intro gb10026 hg w19 hbox hb; have n0_ := mk (Kd.Q_below (by (with_reducible repeat (first | apply Kd.Q_alloc | apply Kd.Q_drewN | apply Kd.Q_drew)); exact HO10006.out) hb); have n1_ := mk (Kd.N_below (Kd.N_elderB (by (with_reducible repeat (first | apply Kd.N_alloc | apply Kd.N_drewN | apply Kd.N_drew)); exact HO10009.out) gb10026 (Nat.le_of_eq hg.symm)) hb); have n2_ := mk (Kd.R_below (by (with_reducible repeat (first | apply Kd.R_alloc | apply Kd.R_drewN | apply Kd.R_drew)); exact HO10016.out) hb); have n3_ := mk (Kd.R_below (by (with_reducible repeat (first | apply Kd.R_alloc | apply Kd.R_drewN | apply Kd.R_drew)); exact HO10024.out) hb); have n4_ := mk (blk_below (g := gb10010) (o := .cells #[.int .i64 t10001, .int .i64 t10002, .int .i64 t10003, .slice Ao10 t10004.length co10] 28 (0, 0)) (by (with_reducible repeat (first | refine blk_drewN ?_ _ | refine blk_drew ?_ | refine blk_alloc ?_ _)); exact BK10010.out) hb); have n5_ := mk (blk_below (g := gb10018) (o := .cells #[.int .i64 t10011, .int .i64 t10012, .int .i64 t10013, .slice Ao16 t10014.length co16] 28 (0, 0)) (by (with_reducible repeat (first | refine blk_drewN ?_ _ | refine blk_drew ?_ | refine blk_alloc ?_ _)); exact BK10018.out) hb); have n6_ := mk (below_step (by repeat (first | (with_reducible first | exact HB.out | apply below_alloc | apply pw_below_drewN | apply below_drew1 | refine below_set ?_ GE10010.out | refine below_set ?_ GE10018.out) | exact HB.out)) hb); have n7_ := mk (hbox); have n8_ := mk ((by rw [hg]; exact (below_size (by repeat (first | (with_reducible first | exact HB.out | apply below_alloc | apply pw_below_drewN | apply below_drew1 | refine below_set ?_ GE10010.out | refine below_set ?_ GE10018.out) | exact HB.out))) : w.heap.size ≤ gb10026)); have n9_ := mk ((by rw [hg]; exact (below_size (by repeat (first | (with_reducible first | exact HB.out | apply below_alloc | apply pw_below_drewN | apply below_drew1 | refine below_set ?_ GE10010.out | refine below_set ?_ GE10018.out) | exact HB.out))) : w.heap.size ≤ gb10026)); have n10_ := mk ((by rw [hg]; exact Nat.ne_of_lt (blk_lt (g := gb10010) (o := .cells #[.int .i64 t10001, .int .i64 t10002, .int .i64 t10003, .slice Ao10 t10004.length co10] 28 (0, 0)) (by (with_reducible repeat (first | refine blk_drewN ?_ _ | refine blk_drew ?_ | refine blk_alloc ?_ _)); exact BK10010.out)) : gb10010 ≠ gb10026)); have n11_ := mk ((by rw [hg]; exact Nat.ne_of_gt (blk_lt (g := gb10010) (o := .cells #[.int .i64 t10001, .int .i64 t10002, .int .i64 t10003, .slice Ao10 t10004.length co10] 28 (0, 0)) (by (with_reducible repeat (first | refine blk_drewN ?_ _ | refine blk_drew ?_ | refine blk_alloc ?_ _)); exact BK10010.out)) : gb10026 ≠ gb10010)); have n12_ := mk ((by rw [hg]; exact Nat.ne_of_lt (blk_lt (g := gb10018) (o := .cells #[.int .i64 t10011, .int .i64 t10012, .int .i64 t10013, .slice Ao16 t10014.length co16] 28 (0, 0)) (by (with_reducible repeat (first | refine blk_drewN ?_ _ | refine blk_drew ?_ | refine blk_alloc ?_ _)); exact BK10018.out)) : gb10018 ≠ gb10026)); have n13_ := mk ((by rw [hg]; exact Nat.ne_of_gt (blk_lt (g := gb10018) (o := .cells #[.int .i64 t10011, .int .i64 t10012, .int .i64 t10013, .slice Ao16 t10014.length co16] 28 (0, 0)) (by (with_reducible repeat (first | refine blk_drewN ?_ _ | refine blk_drew ?_ | refine blk_alloc ?_ _)); exact BK10018.out)) : gb10026 ≠ gb10018)); clear HO10006; clear HO10009; clear HO10016; clear HO10024; clear BK10010; clear BK10018; clear HB; have HO10006 := n0_; have HO10009 := n1_; have HO10016 := n2_; have HO10024 := n3_; have BK10010 := n4_; have BK10018 := n5_; have HB := n6_; have BK10026 := n7_; have GW10026 := n8_; have GE10026 := n9_; have NB10010_10026 := n10_; have NB10026_10010 := n11_; have NB10018_10026 := n12_; have NB10026_10018 := n13_; clear n0_ n1_ n2_ n3_ n4_ n5_ n6_ n7_ n8_ n9_ n10_ n11_ n12_ n13_; clear hb hbox hg; have hnb20 := NB10026_10010.out; have hnc20 := NB10010_10026.out; have hnb21 := NB10026_10018.out; have hnc21 := NB10018_10026.out; have hcz22_0 : w19.cell? ⟨gb10026, 0, none⟩ = some (.int .i64 0) := (blk_cell BK10026.out 0).trans rfl; have hcz22_1 : w19.cell? ⟨gb10026, 1, none⟩ = some (.int .i64 0) := (blk_cell BK10026.out 1).trans rfl; have hcz22_2 : w19.cell? ⟨gb10026, 2, none⟩ = some (.int .i64 0) := (blk_cell BK10026.out 2).trans rfl; have hcz22_3 : w19.cell? ⟨gb10026, 3, none⟩ = some (.slice none 0 0) := (blk_cell BK10026.out 3).trans rfl; have hfz22_0 := blk_frozen BK10026.out 0; have hfz22_1 := blk_frozen BK10026.out 1; have hfz22_2 := blk_frozen BK10026.out 2; have hfz22_3 := blk_frozen BK10026.out 3; obtain ⟨Ao23, co23, eo23⟩ := Kd.R_slice HO10024.out; subst eo23))
  (try simp only [Act.put, List.setIfInBounds_toArray, List.set_cons_zero, List.set_cons_succ])
  go_cut [46] (fun v46 wc => ∃ (kq : Nat) (x46_5 : Bool), v46 = .bool x46_5 ∧ Aside0 (laws_FnSimplifySteps.j0 kq t10007 t10017 t10025 x46_5 t10001 t10002 t10003 t10004 t10011 t10012 t10013 t10014 t10019 t10020 t10021 t10022 = some r) ∧ Aside0 (kq ≤ k) ∧ Aside0 (Kd.N k43 43 wc w.heap.size (fun k_ => some k_ ≠ ((.slice Ao10 t10004.length co10) : Value).ownBlock ∧ some k_ ≠ ((.slice Ao16 t10014.length co16) : Value).ownBlock ∧ some k_ ≠ ((.slice Ao23 t10022.length co23) : Value).ownBlock ∧ k_ ≠ gb10010 ∧ k_ ≠ gb10018 ∧ k_ ≠ gb10026) (.slice Ao11 t10007.length co11) t10007) ∧ Aside0 (Kd.Q (Kd.int .i64) 3 wc w.heap.size (fun k_ => some k_ ≠ ((.slice Ao16 t10014.length co16) : Value).ownBlock ∧ some k_ ≠ ((.slice Ao23 t10022.length co23) : Value).ownBlock) (.slice Ao10 t10004.length co10) t10004) ∧ Aside0 (Kd.Q (Kd.int .i64) 3 wc w.heap.size (fun k_ => some k_ ≠ ((.slice Ao10 t10004.length co10) : Value).ownBlock ∧ some k_ ≠ ((.slice Ao23 t10022.length co23) : Value).ownBlock) (.slice Ao16 t10014.length co16) t10014) ∧ Aside0 (Kd.Q (Kd.int .i64) 3 wc w.heap.size (fun k_ => some k_ ≠ ((.slice Ao10 t10004.length co10) : Value).ownBlock ∧ some k_ ≠ ((.slice Ao16 t10014.length co16) : Value).ownBlock) (.slice Ao23 t10022.length co23) t10022) ∧ Aside0 (wc.heap[gb10010]? = some (.cells #[.int .i64 t10001, .int .i64 t10002, .int .i64 t10003, (.slice Ao10 t10004.length co10)] 28 (0, 0))) ∧ Aside0 (wc.heap[gb10018]? = some (.cells #[.int .i64 t10011, .int .i64 t10012, .int .i64 t10013, (.slice Ao16 t10014.length co16)] 28 (0, 0))) ∧ Aside0 (wc.heap[gb10026]? = some (.cells #[.int .i64 t10019, .int .i64 t10020, .int .i64 t10021, (.slice Ao23 t10022.length co23)] 28 (0, 0))) ∧ Aside0 (Below w.heap.size w wc))
  case first =>
   have H := HC6.out
   clear HC6
   replace H := Option.bind_eq_some_iff.mp H
   obtain ⟨t10027, A240, H⟩ := H
   replace H : (if t10027 = true then (if t10017 = t10025 then (laws_FnSimplifySteps.j0 k t10007 t10017 t10025 (t10017 != (t10007.length : Int)) t10001 t10002 t10003 t10004 t10011 t10012 t10013 t10014 t10019 t10020 t10021 t10022) else (laws_FnSimplifySteps.j0 k t10007 t10017 t10025 true t10001 t10002 t10003 t10004 t10011 t10012 t10013 t10014 t10019 t10020 t10021 t10022)) else (laws_FnSimplifySteps.j0 k t10007 t10017 t10025 true t10001 t10002 t10003 t10004 t10011 t10012 t10013 t10014 t10019 t10020 t10021 t10022)) = some r := H
   have A24 := mk A240
   clear A240
   by_cases c25 : t10027 = true
   ·subst c25
    have H1 : (if t10017 = t10025 then (laws_FnSimplifySteps.j0 k t10007 t10017 t10025 (t10017 != (t10007.length : Int)) t10001 t10002 t10003 t10004 t10011 t10012 t10013 t10014 t10019 t10020 t10021 t10022) else (laws_FnSimplifySteps.j0 k t10007 t10017 t10025 true t10001 t10002 t10003 t10004 t10011 t10012 t10013 t10014 t10019 t10020 t10021 t10022)) = some r := by rw [if_pos rfl] at H; exact H
    clear H
    have H := H1
    clear H1
    by_cases c26 : t10017 = t10025
    ·rw [if_pos c26] at H
     have c26b0 : (t10017 == t10025) = true := beq_iff_eq.mpr c26
     have c26b1 : (t10017 != t10025) = false := bne_eq_false_iff_eq.mpr c26
     clear c26
     (first | rw [c26b0] | (simp only [i64_w, i32_w]; rw [c26b0]) | skip)
     have H' := mk H
     clear H
     have hnb27 := NB10018_10010.out
     have hnc27 := NB10010_10018.out
     have hnb28 := NB10018_10026.out
     have hnc28 := NB10026_10018.out
     have hcz29_0 : w19.cell? ⟨gb10018, 0, none⟩ = some (.int .i64 t10011) := (blk_cell BK10018.out 0).trans rfl
     have hcz29_1 : w19.cell? ⟨gb10018, 1, none⟩ = some (.int .i64 t10012) := (blk_cell BK10018.out 1).trans rfl
     have hcz29_2 : w19.cell? ⟨gb10018, 2, none⟩ = some (.int .i64 t10013) := (blk_cell BK10018.out 2).trans rfl
     have hcz29_3 : w19.cell? ⟨gb10018, 3, none⟩ = some (.slice Ao16 t10014.length co16) := (blk_cell BK10018.out 3).trans rfl
     have hfz29_0 := blk_frozen BK10018.out 0
     have hfz29_1 := blk_frozen BK10018.out 1
     have hfz29_2 := blk_frozen BK10018.out 2
     have hfz29_3 := blk_frozen BK10018.out 3
     have hnb30 := NB10026_10010.out
     have hnc30 := NB10010_10026.out
     have hcz31_0 : w19.cell? ⟨gb10026, 0, none⟩ = some (.int .i64 0) := (blk_cell BK10026.out 0).trans rfl
     have hcz31_1 : w19.cell? ⟨gb10026, 1, none⟩ = some (.int .i64 0) := (blk_cell BK10026.out 1).trans rfl
     have hcz31_2 : w19.cell? ⟨gb10026, 2, none⟩ = some (.int .i64 0) := (blk_cell BK10026.out 2).trans rfl
     have hcz31_3 : w19.cell? ⟨gb10026, 3, none⟩ = some (.slice none 0 0) := (blk_cell BK10026.out 3).trans rfl
     have hfz31_0 := blk_frozen BK10026.out 0
     have hfz31_1 := blk_frozen BK10026.out 1
     have hfz31_2 := blk_frozen BK10026.out 2
     have hfz31_3 := blk_frozen BK10026.out 3
     go_wp2_with (first | ((with_reducible refine gate_callee (f := 24) rfl ?_); refine goesL_ (some 34) rfl rfl Try.func24 (by kernel_rfl) rfl #[.agg #[.int .i64 t10011, .int .i64 t10012, .int .i64 t10013, .slice Ao16 t10014.length co16], .agg #[.int .i64 t10019, .int .i64 t10020, .int .i64 t10021, .slice Ao23 t10022.length co23]] rfl (by (try simp only [List.map_toArray, List.map_cons, List.map_nil]); first | done | rfl | (simp only [List.length_drop, List.length_take]; rfl)) ?_; (with_reducible refine (laws_equalImage.calls k t10011 t10012 t10013 _ _ t10014 t10019 t10020 t10021 _ _ t10022 true _ ?side1 ?side2 ?side3 ?side4 A24.out).mono ?_); (case side1 => refine (Kd.R_reads' (e := 3) (base := w.heap.size) (ok := fun k_ => ((True ∧ some k_ ≠ (.slice Ao10 t10004.length co10 : Value).ownBlock) ∧ some k_ ≠ (.slice Ao23 t10022.length co23 : Value).ownBlock)) (n := t10014.length) (c := co16) ?_).2.2; exact (by (with_reducible repeat (first | apply Kd.R_alloc | apply Kd.R_drewN | apply Kd.R_drew)); exact (Kd.R_mono (Kd.R_far (p := ⟨gb10026, 3, none⟩) (Kd.R_far (p := ⟨gb10026, 2, none⟩) (Kd.R_far (p := ⟨gb10026, 1, none⟩) (Kd.R_far (p := ⟨gb10026, 0, none⟩) (Kd.R_types HO10016.out BK10026.out (by decide)) (fun _ hk => hk.2) (.int .i64 t10019)) (fun _ hk => hk.2) (.int .i64 t10020)) (fun _ hk => hk.2) (.int .i64 t10021)) (fun _ hk => hk.2) (.slice Ao23 t10022.length co23)) (fun _ h_ => h_.1)))); (case side2 => exact (Kd.R_reads' HO10016.out).2.1); (case side3 => refine (Kd.R_reads' (e := 3) (base := w.heap.size) (ok := fun k_ => ((True ∧ some k_ ≠ (.slice Ao10 t10004.length co10 : Value).ownBlock) ∧ some k_ ≠ (.slice Ao16 t10014.length co16 : Value).ownBlock)) (n := t10022.length) (c := co23) ?_).2.2; exact (by (with_reducible repeat (first | apply Kd.R_alloc | apply Kd.R_drewN | apply Kd.R_drew)); exact (Kd.R_mono (Kd.R_far (p := ⟨gb10026, 3, none⟩) (Kd.R_far (p := ⟨gb10026, 2, none⟩) (Kd.R_far (p := ⟨gb10026, 1, none⟩) (Kd.R_far (p := ⟨gb10026, 0, none⟩) (Kd.R_types HO10024.out BK10026.out (by decide)) (fun _ hk => hk.2) (.int .i64 t10019)) (fun _ hk => hk.2) (.int .i64 t10020)) (fun _ hk => hk.2) (.int .i64 t10021)) (fun _ hk => hk.2) (.slice Ao23 t10022.length co23)) (fun _ h_ => h_.1)))); (case side4 => exact (Kd.R_reads' HO10024.out).2.1); rintro e w32 ⟨rfl, hb⟩; refine ⟨_, rfl, ?_⟩; have n0_ := mk (Kd.Q_below (by (with_reducible repeat (first | apply Kd.Q_alloc | apply Kd.Q_drewN | apply Kd.Q_drew)); exact (Kd.Q_mono (Kd.Q_far (p := ⟨gb10026, 3, none⟩) (Kd.Q_far (p := ⟨gb10026, 2, none⟩) (Kd.Q_far (p := ⟨gb10026, 1, none⟩) (Kd.Q_far (p := ⟨gb10026, 0, none⟩) (Kd.Q_types HO10006.out BK10026.out (by decide)) (fun _ hk => hk.2) (.int .i64 t10019)) (fun _ hk => hk.2) (.int .i64 t10020)) (fun _ hk => hk.2) (.int .i64 t10021)) (fun _ hk => hk.2) (.slice Ao23 t10022.length co23)) (fun _ h_ => h_.1))) hb); have n1_ := mk (Kd.N_below (by (with_reducible repeat (first | apply Kd.N_alloc | apply Kd.N_drewN | apply Kd.N_drew)); exact (Kd.N_mono (Kd.N_far (p := ⟨gb10026, 3, none⟩) (Kd.N_far (p := ⟨gb10026, 2, none⟩) (Kd.N_far (p := ⟨gb10026, 1, none⟩) (Kd.N_far (p := ⟨gb10026, 0, none⟩) (Kd.N_mono HO10009.out (fun k_ hk => (⟨hk, hk.2⟩ : _ ∧ k_ ≠ gb10026))) (fun _ hk => hk.2) (.int .i64 t10019)) (fun _ hk => hk.2) (.int .i64 t10020)) (fun _ hk => hk.2) (.int .i64 t10021)) (fun _ hk => hk.2) (.slice Ao23 t10022.length co23)) (fun _ h_ => h_.1))) hb); have n2_ := mk (Kd.R_below (by (with_reducible repeat (first | apply Kd.R_alloc | apply Kd.R_drewN | apply Kd.R_drew)); exact (Kd.R_mono (Kd.R_far (p := ⟨gb10026, 3, none⟩) (Kd.R_far (p := ⟨gb10026, 2, none⟩) (Kd.R_far (p := ⟨gb10026, 1, none⟩) (Kd.R_far (p := ⟨gb10026, 0, none⟩) (Kd.R_types HO10016.out BK10026.out (by decide)) (fun _ hk => hk.2) (.int .i64 t10019)) (fun _ hk => hk.2) (.int .i64 t10020)) (fun _ hk => hk.2) (.int .i64 t10021)) (fun _ hk => hk.2) (.slice Ao23 t10022.length co23)) (fun _ h_ => h_.1))) hb); have n3_ := mk (Kd.R_below (by (with_reducible repeat (first | apply Kd.R_alloc | apply Kd.R_drewN | apply Kd.R_drew)); exact (Kd.R_mono (Kd.R_far (p := ⟨gb10026, 3, none⟩) (Kd.R_far (p := ⟨gb10026, 2, none⟩) (Kd.R_far (p := ⟨gb10026, 1, none⟩) (Kd.R_far (p := ⟨gb10026, 0, none⟩) (Kd.R_types HO10024.out BK10026.out (by decide)) (fun _ hk => hk.2) (.int .i64 t10019)) (fun _ hk => hk.2) (.int .i64 t10020)) (fun _ hk => hk.2) (.int .i64 t10021)) (fun _ hk => hk.2) (.slice Ao23 t10022.length co23)) (fun _ h_ => h_.1))) hb); have n4_ := mk (blk_below (g := gb10010) (o := .cells #[.int .i64 t10001, .int .i64 t10002, .int .i64 t10003, .slice Ao10 t10004.length co10] 28 (0, 0)) (by (with_reducible repeat (first | refine blk_drewN ?_ _ | refine blk_drew ?_ | refine blk_alloc ?_ _)); refine blk_far ?_ NB10010_10026.out _; (with_reducible repeat (first | refine blk_drewN ?_ _ | refine blk_drew ?_ | refine blk_alloc ?_ _)); refine blk_far ?_ NB10010_10026.out _; (with_reducible repeat (first | refine blk_drewN ?_ _ | refine blk_drew ?_ | refine blk_alloc ?_ _)); refine blk_far ?_ NB10010_10026.out _; (with_reducible repeat (first | refine blk_drewN ?_ _ | refine blk_drew ?_ | refine blk_alloc ?_ _)); refine blk_far ?_ NB10010_10026.out _; (with_reducible repeat (first | refine blk_drewN ?_ _ | refine blk_drew ?_ | refine blk_alloc ?_ _)); exact BK10010.out) hb); have n5_ := mk (blk_below (g := gb10018) (o := .cells #[.int .i64 t10011, .int .i64 t10012, .int .i64 t10013, .slice Ao16 t10014.length co16] 28 (0, 0)) (by (with_reducible repeat (first | refine blk_drewN ?_ _ | refine blk_drew ?_ | refine blk_alloc ?_ _)); refine blk_far ?_ NB10018_10026.out _; (with_reducible repeat (first | refine blk_drewN ?_ _ | refine blk_drew ?_ | refine blk_alloc ?_ _)); refine blk_far ?_ NB10018_10026.out _; (with_reducible repeat (first | refine blk_drewN ?_ _ | refine blk_drew ?_ | refine blk_alloc ?_ _)); refine blk_far ?_ NB10018_10026.out _; (with_reducible repeat (first | refine blk_drewN ?_ _ | refine blk_drew ?_ | refine blk_alloc ?_ _)); refine blk_far ?_ NB10018_10026.out _; (with_reducible repeat (first | refine blk_drewN ?_ _ | refine blk_drew ?_ | refine blk_alloc ?_ _)); exact BK10018.out) hb); have n6_ := mk (blk_below (g := gb10026) (o := .cells #[.int .i64 t10019, .int .i64 t10020, .int .i64 t10021, .slice Ao23 t10022.length co23] 28 (0, 0)) (by (with_reducible repeat (first | refine blk_drewN ?_ _ | refine blk_drew ?_ | refine blk_alloc ?_ _)); refine blk_put (cs := #[.int .i64 t10019, .int .i64 t10020, .int .i64 t10021, .slice none 0 0]) ?_ 3 _ rfl; (with_reducible repeat (first | refine blk_drewN ?_ _ | refine blk_drew ?_ | refine blk_alloc ?_ _)); refine blk_put (cs := #[.int .i64 t10019, .int .i64 t10020, .int .i64 0, .slice none 0 0]) ?_ 2 _ rfl; (with_reducible repeat (first | refine blk_drewN ?_ _ | refine blk_drew ?_ | refine blk_alloc ?_ _)); refine blk_put (cs := #[.int .i64 t10019, .int .i64 0, .int .i64 0, .slice none 0 0]) ?_ 1 _ rfl; (with_reducible repeat (first | refine blk_drewN ?_ _ | refine blk_drew ?_ | refine blk_alloc ?_ _)); refine blk_put (cs := #[.int .i64 0, .int .i64 0, .int .i64 0, .slice none 0 0]) ?_ 0 _ rfl; (with_reducible repeat (first | refine blk_drewN ?_ _ | refine blk_drew ?_ | refine blk_alloc ?_ _)); exact BK10026.out) hb); have n7_ := mk (below_step (by repeat (first | (with_reducible first | exact HB.out | apply below_alloc | apply pw_below_drewN | apply below_drew1 | refine below_set ?_ GE10010.out | refine below_set ?_ GE10018.out | refine below_set ?_ GE10026.out) | exact HB.out)) hb); clear HO10006; clear HO10009; clear HO10016; clear HO10024; clear BK10010; clear BK10018; clear BK10026; clear HB; have HO10006 := n0_; have HO10009 := n1_; have HO10016 := n2_; have HO10024 := n3_; have BK10010 := n4_; have BK10018 := n5_; have BK10026 := n6_; have HB := n7_; clear n0_ n1_ n2_ n3_ n4_ n5_ n6_ n7_; (try clear hb); (try clear hb2); (try clear hk); (try clear hi)))
     go_meet
     case rel => exact ⟨_, ((t10017 != (t10007.length : Int))), (by first | rfl | (simp; done) | (simp [*]; done)), H', ⟨by first | omega | exact Nat.le_refl _⟩, ⟨by (with_reducible repeat (first | apply Kd.N_alloc | apply Kd.N_drewN | apply Kd.N_drew)); exact Kd.N_mono HO10009.out (fun _ hk => ⟨hk.1.1.1.1.1, ⟨hk.1.1.1.2, ⟨hk.1.2, ⟨hk.1.1.1.1.2, ⟨hk.1.1.2, hk.2⟩⟩⟩⟩⟩)⟩, ⟨by (with_reducible repeat (first | apply Kd.Q_alloc | apply Kd.Q_drewN | apply Kd.Q_drew)); exact Kd.Q_mono HO10006.out (fun _ hk => ⟨hk.1.2, hk.2⟩)⟩, ⟨Kd.Q_of_R (by (with_reducible repeat (first | apply Kd.R_alloc | apply Kd.R_drewN | apply Kd.R_drew)); exact Kd.R_mono HO10016.out (fun _ hk => ⟨hk.1.2, hk.2⟩))⟩, ⟨Kd.Q_of_R (by (with_reducible repeat (first | apply Kd.R_alloc | apply Kd.R_drewN | apply Kd.R_drew)); exact Kd.R_mono HO10024.out (fun _ hk => ⟨hk.1.2, hk.2⟩))⟩, ⟨by (with_reducible repeat (first | refine blk_drewN ?_ _ | refine blk_drew ?_ | refine blk_alloc ?_ _)); exact BK10010.out⟩, ⟨by (with_reducible repeat (first | refine blk_drewN ?_ _ | refine blk_drew ?_ | refine blk_alloc ?_ _)); exact BK10018.out⟩, ⟨by (with_reducible repeat (first | refine blk_drewN ?_ _ | refine blk_drew ?_ | refine blk_alloc ?_ _)); exact BK10026.out⟩, ⟨by repeat (first | (with_reducible first | exact HB.out | apply below_alloc | apply pw_below_drewN | apply below_drew1 | refine below_set ?_ GE10010.out | refine below_set ?_ GE10018.out | refine below_set ?_ GE10026.out) | exact HB.out)⟩⟩
    ·rw [if_neg c26] at H
     have c26b0 : (t10017 == t10025) = false := beq_eq_false_iff_ne.mpr c26
     have c26b1 : (t10017 != t10025) = true := bne_iff_ne.mpr c26
     (first | rw [c26b0] | (simp only [i64_w, i32_w]; rw [c26b0]) | skip)
     have H' := mk H
     clear H
     have hnb33 := NB10018_10010.out
     have hnc33 := NB10010_10018.out
     have hnb34 := NB10018_10026.out
     have hnc34 := NB10026_10018.out
     have hcz35_0 : w19.cell? ⟨gb10018, 0, none⟩ = some (.int .i64 t10011) := (blk_cell BK10018.out 0).trans rfl
     have hcz35_1 : w19.cell? ⟨gb10018, 1, none⟩ = some (.int .i64 t10012) := (blk_cell BK10018.out 1).trans rfl
     have hcz35_2 : w19.cell? ⟨gb10018, 2, none⟩ = some (.int .i64 t10013) := (blk_cell BK10018.out 2).trans rfl
     have hcz35_3 : w19.cell? ⟨gb10018, 3, none⟩ = some (.slice Ao16 t10014.length co16) := (blk_cell BK10018.out 3).trans rfl
     have hfz35_0 := blk_frozen BK10018.out 0
     have hfz35_1 := blk_frozen BK10018.out 1
     have hfz35_2 := blk_frozen BK10018.out 2
     have hfz35_3 := blk_frozen BK10018.out 3
     have hnb36 := NB10026_10010.out
     have hnc36 := NB10010_10026.out
     have hcz37_0 : w19.cell? ⟨gb10026, 0, none⟩ = some (.int .i64 0) := (blk_cell BK10026.out 0).trans rfl
     have hcz37_1 : w19.cell? ⟨gb10026, 1, none⟩ = some (.int .i64 0) := (blk_cell BK10026.out 1).trans rfl
     have hcz37_2 : w19.cell? ⟨gb10026, 2, none⟩ = some (.int .i64 0) := (blk_cell BK10026.out 2).trans rfl
     have hcz37_3 : w19.cell? ⟨gb10026, 3, none⟩ = some (.slice none 0 0) := (blk_cell BK10026.out 3).trans rfl
     have hfz37_0 := blk_frozen BK10026.out 0
     have hfz37_1 := blk_frozen BK10026.out 1
     have hfz37_2 := blk_frozen BK10026.out 2
     have hfz37_3 := blk_frozen BK10026.out 3
     go_wp2_with (first | ((with_reducible refine gate_callee (f := 24) rfl ?_); refine goesL_ (some 34) rfl rfl Try.func24 (by kernel_rfl) rfl #[.agg #[.int .i64 t10011, .int .i64 t10012, .int .i64 t10013, .slice Ao16 t10014.length co16], .agg #[.int .i64 t10019, .int .i64 t10020, .int .i64 t10021, .slice Ao23 t10022.length co23]] rfl (by (try simp only [List.map_toArray, List.map_cons, List.map_nil]); first | done | rfl | (simp only [List.length_drop, List.length_take]; rfl)) ?_; (with_reducible refine (laws_equalImage.calls k t10011 t10012 t10013 _ _ t10014 t10019 t10020 t10021 _ _ t10022 true _ ?side1 ?side2 ?side3 ?side4 A24.out).mono ?_); (case side1 => refine (Kd.R_reads' (e := 3) (base := w.heap.size) (ok := fun k_ => ((True ∧ some k_ ≠ (.slice Ao10 t10004.length co10 : Value).ownBlock) ∧ some k_ ≠ (.slice Ao23 t10022.length co23 : Value).ownBlock)) (n := t10014.length) (c := co16) ?_).2.2; exact (by (with_reducible repeat (first | apply Kd.R_alloc | apply Kd.R_drewN | apply Kd.R_drew)); exact (Kd.R_mono (Kd.R_far (p := ⟨gb10026, 3, none⟩) (Kd.R_far (p := ⟨gb10026, 2, none⟩) (Kd.R_far (p := ⟨gb10026, 1, none⟩) (Kd.R_far (p := ⟨gb10026, 0, none⟩) (Kd.R_types HO10016.out BK10026.out (by decide)) (fun _ hk => hk.2) (.int .i64 t10019)) (fun _ hk => hk.2) (.int .i64 t10020)) (fun _ hk => hk.2) (.int .i64 t10021)) (fun _ hk => hk.2) (.slice Ao23 t10022.length co23)) (fun _ h_ => h_.1)))); (case side2 => exact (Kd.R_reads' HO10016.out).2.1); (case side3 => refine (Kd.R_reads' (e := 3) (base := w.heap.size) (ok := fun k_ => ((True ∧ some k_ ≠ (.slice Ao10 t10004.length co10 : Value).ownBlock) ∧ some k_ ≠ (.slice Ao16 t10014.length co16 : Value).ownBlock)) (n := t10022.length) (c := co23) ?_).2.2; exact (by (with_reducible repeat (first | apply Kd.R_alloc | apply Kd.R_drewN | apply Kd.R_drew)); exact (Kd.R_mono (Kd.R_far (p := ⟨gb10026, 3, none⟩) (Kd.R_far (p := ⟨gb10026, 2, none⟩) (Kd.R_far (p := ⟨gb10026, 1, none⟩) (Kd.R_far (p := ⟨gb10026, 0, none⟩) (Kd.R_types HO10024.out BK10026.out (by decide)) (fun _ hk => hk.2) (.int .i64 t10019)) (fun _ hk => hk.2) (.int .i64 t10020)) (fun _ hk => hk.2) (.int .i64 t10021)) (fun _ hk => hk.2) (.slice Ao23 t10022.length co23)) (fun _ h_ => h_.1)))); (case side4 => exact (Kd.R_reads' HO10024.out).2.1); rintro e w38 ⟨rfl, hb⟩; refine ⟨_, rfl, ?_⟩; have n0_ := mk (Kd.Q_below (by (with_reducible repeat (first | apply Kd.Q_alloc | apply Kd.Q_drewN | apply Kd.Q_drew)); exact (Kd.Q_mono (Kd.Q_far (p := ⟨gb10026, 3, none⟩) (Kd.Q_far (p := ⟨gb10026, 2, none⟩) (Kd.Q_far (p := ⟨gb10026, 1, none⟩) (Kd.Q_far (p := ⟨gb10026, 0, none⟩) (Kd.Q_types HO10006.out BK10026.out (by decide)) (fun _ hk => hk.2) (.int .i64 t10019)) (fun _ hk => hk.2) (.int .i64 t10020)) (fun _ hk => hk.2) (.int .i64 t10021)) (fun _ hk => hk.2) (.slice Ao23 t10022.length co23)) (fun _ h_ => h_.1))) hb); have n1_ := mk (Kd.N_below (by (with_reducible repeat (first | apply Kd.N_alloc | apply Kd.N_drewN | apply Kd.N_drew)); exact (Kd.N_mono (Kd.N_far (p := ⟨gb10026, 3, none⟩) (Kd.N_far (p := ⟨gb10026, 2, none⟩) (Kd.N_far (p := ⟨gb10026, 1, none⟩) (Kd.N_far (p := ⟨gb10026, 0, none⟩) (Kd.N_mono HO10009.out (fun k_ hk => (⟨hk, hk.2⟩ : _ ∧ k_ ≠ gb10026))) (fun _ hk => hk.2) (.int .i64 t10019)) (fun _ hk => hk.2) (.int .i64 t10020)) (fun _ hk => hk.2) (.int .i64 t10021)) (fun _ hk => hk.2) (.slice Ao23 t10022.length co23)) (fun _ h_ => h_.1))) hb); have n2_ := mk (Kd.R_below (by (with_reducible repeat (first | apply Kd.R_alloc | apply Kd.R_drewN | apply Kd.R_drew)); exact (Kd.R_mono (Kd.R_far (p := ⟨gb10026, 3, none⟩) (Kd.R_far (p := ⟨gb10026, 2, none⟩) (Kd.R_far (p := ⟨gb10026, 1, none⟩) (Kd.R_far (p := ⟨gb10026, 0, none⟩) (Kd.R_types HO10016.out BK10026.out (by decide)) (fun _ hk => hk.2) (.int .i64 t10019)) (fun _ hk => hk.2) (.int .i64 t10020)) (fun _ hk => hk.2) (.int .i64 t10021)) (fun _ hk => hk.2) (.slice Ao23 t10022.length co23)) (fun _ h_ => h_.1))) hb); have n3_ := mk (Kd.R_below (by (with_reducible repeat (first | apply Kd.R_alloc | apply Kd.R_drewN | apply Kd.R_drew)); exact (Kd.R_mono (Kd.R_far (p := ⟨gb10026, 3, none⟩) (Kd.R_far (p := ⟨gb10026, 2, none⟩) (Kd.R_far (p := ⟨gb10026, 1, none⟩) (Kd.R_far (p := ⟨gb10026, 0, none⟩) (Kd.R_types HO10024.out BK10026.out (by decide)) (fun _ hk => hk.2) (.int .i64 t10019)) (fun _ hk => hk.2) (.int .i64 t10020)) (fun _ hk => hk.2) (.int .i64 t10021)) (fun _ hk => hk.2) (.slice Ao23 t10022.length co23)) (fun _ h_ => h_.1))) hb); have n4_ := mk (blk_below (g := gb10010) (o := .cells #[.int .i64 t10001, .int .i64 t10002, .int .i64 t10003, .slice Ao10 t10004.length co10] 28 (0, 0)) (by (with_reducible repeat (first | refine blk_drewN ?_ _ | refine blk_drew ?_ | refine blk_alloc ?_ _)); refine blk_far ?_ NB10010_10026.out _; (with_reducible repeat (first | refine blk_drewN ?_ _ | refine blk_drew ?_ | refine blk_alloc ?_ _)); refine blk_far ?_ NB10010_10026.out _; (with_reducible repeat (first | refine blk_drewN ?_ _ | refine blk_drew ?_ | refine blk_alloc ?_ _)); refine blk_far ?_ NB10010_10026.out _; (with_reducible repeat (first | refine blk_drewN ?_ _ | refine blk_drew ?_ | refine blk_alloc ?_ _)); refine blk_far ?_ NB10010_10026.out _; (with_reducible repeat (first | refine blk_drewN ?_ _ | refine blk_drew ?_ | refine blk_alloc ?_ _)); exact BK10010.out) hb); have n5_ := mk (blk_below (g := gb10018) (o := .cells #[.int .i64 t10011, .int .i64 t10012, .int .i64 t10013, .slice Ao16 t10014.length co16] 28 (0, 0)) (by (with_reducible repeat (first | refine blk_drewN ?_ _ | refine blk_drew ?_ | refine blk_alloc ?_ _)); refine blk_far ?_ NB10018_10026.out _; (with_reducible repeat (first | refine blk_drewN ?_ _ | refine blk_drew ?_ | refine blk_alloc ?_ _)); refine blk_far ?_ NB10018_10026.out _; (with_reducible repeat (first | refine blk_drewN ?_ _ | refine blk_drew ?_ | refine blk_alloc ?_ _)); refine blk_far ?_ NB10018_10026.out _; (with_reducible repeat (first | refine blk_drewN ?_ _ | refine blk_drew ?_ | refine blk_alloc ?_ _)); refine blk_far ?_ NB10018_10026.out _; (with_reducible repeat (first | refine blk_drewN ?_ _ | refine blk_drew ?_ | refine blk_alloc ?_ _)); exact BK10018.out) hb); have n6_ := mk (blk_below (g := gb10026) (o := .cells #[.int .i64 t10019, .int .i64 t10020, .int .i64 t10021, .slice Ao23 t10022.length co23] 28 (0, 0)) (by (with_reducible repeat (first | refine blk_drewN ?_ _ | refine blk_drew ?_ | refine blk_alloc ?_ _)); refine blk_put (cs := #[.int .i64 t10019, .int .i64 t10020, .int .i64 t10021, .slice none 0 0]) ?_ 3 _ rfl; (with_reducible repeat (first | refine blk_drewN ?_ _ | refine blk_drew ?_ | refine blk_alloc ?_ _)); refine blk_put (cs := #[.int .i64 t10019, .int .i64 t10020, .int .i64 0, .slice none 0 0]) ?_ 2 _ rfl; (with_reducible repeat (first | refine blk_drewN ?_ _ | refine blk_drew ?_ | refine blk_alloc ?_ _)); refine blk_put (cs := #[.int .i64 t10019, .int .i64 0, .int .i64 0, .slice none 0 0]) ?_ 1 _ rfl; (with_reducible repeat (first | refine blk_drewN ?_ _ | refine blk_drew ?_ | refine blk_alloc ?_ _)); refine blk_put (cs := #[.int .i64 0, .int .i64 0, .int .i64 0, .slice none 0 0]) ?_ 0 _ rfl; (with_reducible repeat (first | refine blk_drewN ?_ _ | refine blk_drew ?_ | refine blk_alloc ?_ _)); exact BK10026.out) hb); have n7_ := mk (below_step (by repeat (first | (with_reducible first | exact HB.out | apply below_alloc | apply pw_below_drewN | apply below_drew1 | refine below_set ?_ GE10010.out | refine below_set ?_ GE10018.out | refine below_set ?_ GE10026.out) | exact HB.out)) hb); clear HO10006; clear HO10009; clear HO10016; clear HO10024; clear BK10010; clear BK10018; clear BK10026; clear HB; have HO10006 := n0_; have HO10009 := n1_; have HO10016 := n2_; have HO10024 := n3_; have BK10010 := n4_; have BK10018 := n5_; have BK10026 := n6_; have HB := n7_; clear n0_ n1_ n2_ n3_ n4_ n5_ n6_ n7_; (try clear hb); (try clear hb2); (try clear hk); (try clear hi)))
     go_meet
     case rel => exact ⟨_, (true), (by first | rfl | (simp; done) | (simp [*]; done)), H', ⟨by first | omega | exact Nat.le_refl _⟩, ⟨by (with_reducible repeat (first | apply Kd.N_alloc | apply Kd.N_drewN | apply Kd.N_drew)); exact Kd.N_mono HO10009.out (fun _ hk => ⟨hk.1.1.1.1.1, ⟨hk.1.1.1.2, ⟨hk.1.2, ⟨hk.1.1.1.1.2, ⟨hk.1.1.2, hk.2⟩⟩⟩⟩⟩)⟩, ⟨by (with_reducible repeat (first | apply Kd.Q_alloc | apply Kd.Q_drewN | apply Kd.Q_drew)); exact Kd.Q_mono HO10006.out (fun _ hk => ⟨hk.1.2, hk.2⟩)⟩, ⟨Kd.Q_of_R (by (with_reducible repeat (first | apply Kd.R_alloc | apply Kd.R_drewN | apply Kd.R_drew)); exact Kd.R_mono HO10016.out (fun _ hk => ⟨hk.1.2, hk.2⟩))⟩, ⟨Kd.Q_of_R (by (with_reducible repeat (first | apply Kd.R_alloc | apply Kd.R_drewN | apply Kd.R_drew)); exact Kd.R_mono HO10024.out (fun _ hk => ⟨hk.1.2, hk.2⟩))⟩, ⟨by (with_reducible repeat (first | refine blk_drewN ?_ _ | refine blk_drew ?_ | refine blk_alloc ?_ _)); exact BK10010.out⟩, ⟨by (with_reducible repeat (first | refine blk_drewN ?_ _ | refine blk_drew ?_ | refine blk_alloc ?_ _)); exact BK10018.out⟩, ⟨by (with_reducible repeat (first | refine blk_drewN ?_ _ | refine blk_drew ?_ | refine blk_alloc ?_ _)); exact BK10026.out⟩, ⟨by repeat (first | (with_reducible first | exact HB.out | apply below_alloc | apply pw_below_drewN | apply below_drew1 | refine below_set ?_ GE10010.out | refine below_set ?_ GE10018.out | refine below_set ?_ GE10026.out) | exact HB.out)⟩⟩
   ·replace c25 := Bool.eq_false_iff.mpr c25
    subst c25
    have H1 : (laws_FnSimplifySteps.j0 k t10007 t10017 t10025 true t10001 t10002 t10003 t10004 t10011 t10012 t10013 t10014 t10019 t10020 t10021 t10022) = some r := by rw [if_neg (show ¬ (false = true) by decide)] at H; exact H
    clear H
    have H := H1
    clear H1
    have H' := mk H
    clear H
    have hnb39 := NB10018_10010.out
    have hnc39 := NB10010_10018.out
    have hnb40 := NB10018_10026.out
    have hnc40 := NB10026_10018.out
    have hcz41_0 : w19.cell? ⟨gb10018, 0, none⟩ = some (.int .i64 t10011) := (blk_cell BK10018.out 0).trans rfl
    have hcz41_1 : w19.cell? ⟨gb10018, 1, none⟩ = some (.int .i64 t10012) := (blk_cell BK10018.out 1).trans rfl
    have hcz41_2 : w19.cell? ⟨gb10018, 2, none⟩ = some (.int .i64 t10013) := (blk_cell BK10018.out 2).trans rfl
    have hcz41_3 : w19.cell? ⟨gb10018, 3, none⟩ = some (.slice Ao16 t10014.length co16) := (blk_cell BK10018.out 3).trans rfl
    have hfz41_0 := blk_frozen BK10018.out 0
    have hfz41_1 := blk_frozen BK10018.out 1
    have hfz41_2 := blk_frozen BK10018.out 2
    have hfz41_3 := blk_frozen BK10018.out 3
    have hnb42 := NB10026_10010.out
    have hnc42 := NB10010_10026.out
    have hcz43_0 : w19.cell? ⟨gb10026, 0, none⟩ = some (.int .i64 0) := (blk_cell BK10026.out 0).trans rfl
    have hcz43_1 : w19.cell? ⟨gb10026, 1, none⟩ = some (.int .i64 0) := (blk_cell BK10026.out 1).trans rfl
    have hcz43_2 : w19.cell? ⟨gb10026, 2, none⟩ = some (.int .i64 0) := (blk_cell BK10026.out 2).trans rfl
    have hcz43_3 : w19.cell? ⟨gb10026, 3, none⟩ = some (.slice none 0 0) := (blk_cell BK10026.out 3).trans rfl
    have hfz43_0 := blk_frozen BK10026.out 0
    have hfz43_1 := blk_frozen BK10026.out 1
    have hfz43_2 := blk_frozen BK10026.out 2
    have hfz43_3 := blk_frozen BK10026.out 3
    go_wp2_with (first | ((with_reducible refine gate_callee (f := 24) rfl ?_); refine goesL_ (some 34) rfl rfl Try.func24 (by kernel_rfl) rfl #[.agg #[.int .i64 t10011, .int .i64 t10012, .int .i64 t10013, .slice Ao16 t10014.length co16], .agg #[.int .i64 t10019, .int .i64 t10020, .int .i64 t10021, .slice Ao23 t10022.length co23]] rfl (by (try simp only [List.map_toArray, List.map_cons, List.map_nil]); first | done | rfl | (simp only [List.length_drop, List.length_take]; rfl)) ?_; (with_reducible refine (laws_equalImage.calls k t10011 t10012 t10013 _ _ t10014 t10019 t10020 t10021 _ _ t10022 false _ ?side1 ?side2 ?side3 ?side4 A24.out).mono ?_); (case side1 => refine (Kd.R_reads' (e := 3) (base := w.heap.size) (ok := fun k_ => ((True ∧ some k_ ≠ (.slice Ao10 t10004.length co10 : Value).ownBlock) ∧ some k_ ≠ (.slice Ao23 t10022.length co23 : Value).ownBlock)) (n := t10014.length) (c := co16) ?_).2.2; exact (by (with_reducible repeat (first | apply Kd.R_alloc | apply Kd.R_drewN | apply Kd.R_drew)); exact (Kd.R_mono (Kd.R_far (p := ⟨gb10026, 3, none⟩) (Kd.R_far (p := ⟨gb10026, 2, none⟩) (Kd.R_far (p := ⟨gb10026, 1, none⟩) (Kd.R_far (p := ⟨gb10026, 0, none⟩) (Kd.R_types HO10016.out BK10026.out (by decide)) (fun _ hk => hk.2) (.int .i64 t10019)) (fun _ hk => hk.2) (.int .i64 t10020)) (fun _ hk => hk.2) (.int .i64 t10021)) (fun _ hk => hk.2) (.slice Ao23 t10022.length co23)) (fun _ h_ => h_.1)))); (case side2 => exact (Kd.R_reads' HO10016.out).2.1); (case side3 => refine (Kd.R_reads' (e := 3) (base := w.heap.size) (ok := fun k_ => ((True ∧ some k_ ≠ (.slice Ao10 t10004.length co10 : Value).ownBlock) ∧ some k_ ≠ (.slice Ao16 t10014.length co16 : Value).ownBlock)) (n := t10022.length) (c := co23) ?_).2.2; exact (by (with_reducible repeat (first | apply Kd.R_alloc | apply Kd.R_drewN | apply Kd.R_drew)); exact (Kd.R_mono (Kd.R_far (p := ⟨gb10026, 3, none⟩) (Kd.R_far (p := ⟨gb10026, 2, none⟩) (Kd.R_far (p := ⟨gb10026, 1, none⟩) (Kd.R_far (p := ⟨gb10026, 0, none⟩) (Kd.R_types HO10024.out BK10026.out (by decide)) (fun _ hk => hk.2) (.int .i64 t10019)) (fun _ hk => hk.2) (.int .i64 t10020)) (fun _ hk => hk.2) (.int .i64 t10021)) (fun _ hk => hk.2) (.slice Ao23 t10022.length co23)) (fun _ h_ => h_.1)))); (case side4 => exact (Kd.R_reads' HO10024.out).2.1); rintro e w44 ⟨rfl, hb⟩; refine ⟨_, rfl, ?_⟩; have n0_ := mk (Kd.Q_below (by (with_reducible repeat (first | apply Kd.Q_alloc | apply Kd.Q_drewN | apply Kd.Q_drew)); exact (Kd.Q_mono (Kd.Q_far (p := ⟨gb10026, 3, none⟩) (Kd.Q_far (p := ⟨gb10026, 2, none⟩) (Kd.Q_far (p := ⟨gb10026, 1, none⟩) (Kd.Q_far (p := ⟨gb10026, 0, none⟩) (Kd.Q_types HO10006.out BK10026.out (by decide)) (fun _ hk => hk.2) (.int .i64 t10019)) (fun _ hk => hk.2) (.int .i64 t10020)) (fun _ hk => hk.2) (.int .i64 t10021)) (fun _ hk => hk.2) (.slice Ao23 t10022.length co23)) (fun _ h_ => h_.1))) hb); have n1_ := mk (Kd.N_below (by (with_reducible repeat (first | apply Kd.N_alloc | apply Kd.N_drewN | apply Kd.N_drew)); exact (Kd.N_mono (Kd.N_far (p := ⟨gb10026, 3, none⟩) (Kd.N_far (p := ⟨gb10026, 2, none⟩) (Kd.N_far (p := ⟨gb10026, 1, none⟩) (Kd.N_far (p := ⟨gb10026, 0, none⟩) (Kd.N_mono HO10009.out (fun k_ hk => (⟨hk, hk.2⟩ : _ ∧ k_ ≠ gb10026))) (fun _ hk => hk.2) (.int .i64 t10019)) (fun _ hk => hk.2) (.int .i64 t10020)) (fun _ hk => hk.2) (.int .i64 t10021)) (fun _ hk => hk.2) (.slice Ao23 t10022.length co23)) (fun _ h_ => h_.1))) hb); have n2_ := mk (Kd.R_below (by (with_reducible repeat (first | apply Kd.R_alloc | apply Kd.R_drewN | apply Kd.R_drew)); exact (Kd.R_mono (Kd.R_far (p := ⟨gb10026, 3, none⟩) (Kd.R_far (p := ⟨gb10026, 2, none⟩) (Kd.R_far (p := ⟨gb10026, 1, none⟩) (Kd.R_far (p := ⟨gb10026, 0, none⟩) (Kd.R_types HO10016.out BK10026.out (by decide)) (fun _ hk => hk.2) (.int .i64 t10019)) (fun _ hk => hk.2) (.int .i64 t10020)) (fun _ hk => hk.2) (.int .i64 t10021)) (fun _ hk => hk.2) (.slice Ao23 t10022.length co23)) (fun _ h_ => h_.1))) hb); have n3_ := mk (Kd.R_below (by (with_reducible repeat (first | apply Kd.R_alloc | apply Kd.R_drewN | apply Kd.R_drew)); exact (Kd.R_mono (Kd.R_far (p := ⟨gb10026, 3, none⟩) (Kd.R_far (p := ⟨gb10026, 2, none⟩) (Kd.R_far (p := ⟨gb10026, 1, none⟩) (Kd.R_far (p := ⟨gb10026, 0, none⟩) (Kd.R_types HO10024.out BK10026.out (by decide)) (fun _ hk => hk.2) (.int .i64 t10019)) (fun _ hk => hk.2) (.int .i64 t10020)) (fun _ hk => hk.2) (.int .i64 t10021)) (fun _ hk => hk.2) (.slice Ao23 t10022.length co23)) (fun _ h_ => h_.1))) hb); have n4_ := mk (blk_below (g := gb10010) (o := .cells #[.int .i64 t10001, .int .i64 t10002, .int .i64 t10003, .slice Ao10 t10004.length co10] 28 (0, 0)) (by (with_reducible repeat (first | refine blk_drewN ?_ _ | refine blk_drew ?_ | refine blk_alloc ?_ _)); refine blk_far ?_ NB10010_10026.out _; (with_reducible repeat (first | refine blk_drewN ?_ _ | refine blk_drew ?_ | refine blk_alloc ?_ _)); refine blk_far ?_ NB10010_10026.out _; (with_reducible repeat (first | refine blk_drewN ?_ _ | refine blk_drew ?_ | refine blk_alloc ?_ _)); refine blk_far ?_ NB10010_10026.out _; (with_reducible repeat (first | refine blk_drewN ?_ _ | refine blk_drew ?_ | refine blk_alloc ?_ _)); refine blk_far ?_ NB10010_10026.out _; (with_reducible repeat (first | refine blk_drewN ?_ _ | refine blk_drew ?_ | refine blk_alloc ?_ _)); exact BK10010.out) hb); have n5_ := mk (blk_below (g := gb10018) (o := .cells #[.int .i64 t10011, .int .i64 t10012, .int .i64 t10013, .slice Ao16 t10014.length co16] 28 (0, 0)) (by (with_reducible repeat (first | refine blk_drewN ?_ _ | refine blk_drew ?_ | refine blk_alloc ?_ _)); refine blk_far ?_ NB10018_10026.out _; (with_reducible repeat (first | refine blk_drewN ?_ _ | refine blk_drew ?_ | refine blk_alloc ?_ _)); refine blk_far ?_ NB10018_10026.out _; (with_reducible repeat (first | refine blk_drewN ?_ _ | refine blk_drew ?_ | refine blk_alloc ?_ _)); refine blk_far ?_ NB10018_10026.out _; (with_reducible repeat (first | refine blk_drewN ?_ _ | refine blk_drew ?_ | refine blk_alloc ?_ _)); refine blk_far ?_ NB10018_10026.out _; (with_reducible repeat (first | refine blk_drewN ?_ _ | refine blk_drew ?_ | refine blk_alloc ?_ _)); exact BK10018.out) hb); have n6_ := mk (blk_below (g := gb10026) (o := .cells #[.int .i64 t10019, .int .i64 t10020, .int .i64 t10021, .slice Ao23 t10022.length co23] 28 (0, 0)) (by (with_reducible repeat (first | refine blk_drewN ?_ _ | refine blk_drew ?_ | refine blk_alloc ?_ _)); refine blk_put (cs := #[.int .i64 t10019, .int .i64 t10020, .int .i64 t10021, .slice none 0 0]) ?_ 3 _ rfl; (with_reducible repeat (first | refine blk_drewN ?_ _ | refine blk_drew ?_ | refine blk_alloc ?_ _)); refine blk_put (cs := #[.int .i64 t10019, .int .i64 t10020, .int .i64 0, .slice none 0 0]) ?_ 2 _ rfl; (with_reducible repeat (first | refine blk_drewN ?_ _ | refine blk_drew ?_ | refine blk_alloc ?_ _)); refine blk_put (cs := #[.int .i64 t10019, .int .i64 0, .int .i64 0, .slice none 0 0]) ?_ 1 _ rfl; (with_reducible repeat (first | refine blk_drewN ?_ _ | refine blk_drew ?_ | refine blk_alloc ?_ _)); refine blk_put (cs := #[.int .i64 0, .int .i64 0, .int .i64 0, .slice none 0 0]) ?_ 0 _ rfl; (with_reducible repeat (first | refine blk_drewN ?_ _ | refine blk_drew ?_ | refine blk_alloc ?_ _)); exact BK10026.out) hb); have n7_ := mk (below_step (by repeat (first | (with_reducible first | exact HB.out | apply below_alloc | apply pw_below_drewN | apply below_drew1 | refine below_set ?_ GE10010.out | refine below_set ?_ GE10018.out | refine below_set ?_ GE10026.out) | exact HB.out)) hb); clear HO10006; clear HO10009; clear HO10016; clear HO10024; clear BK10010; clear BK10018; clear BK10026; clear HB; have HO10006 := n0_; have HO10009 := n1_; have HO10016 := n2_; have HO10024 := n3_; have BK10010 := n4_; have BK10018 := n5_; have BK10026 := n6_; have HB := n7_; clear n0_ n1_ n2_ n3_ n4_ n5_ n6_ n7_; (try clear hb); (try clear hb2); (try clear hk); (try clear hi)))
    go_meet
    case rel => exact ⟨_, (true), (by first | rfl | (simp; done) | (simp [*]; done)), H', ⟨by first | omega | exact Nat.le_refl _⟩, ⟨by (with_reducible repeat (first | apply Kd.N_alloc | apply Kd.N_drewN | apply Kd.N_drew)); exact Kd.N_mono HO10009.out (fun _ hk => ⟨hk.1.1.1.1.1, ⟨hk.1.1.1.2, ⟨hk.1.2, ⟨hk.1.1.1.1.2, ⟨hk.1.1.2, hk.2⟩⟩⟩⟩⟩)⟩, ⟨by (with_reducible repeat (first | apply Kd.Q_alloc | apply Kd.Q_drewN | apply Kd.Q_drew)); exact Kd.Q_mono HO10006.out (fun _ hk => ⟨hk.1.2, hk.2⟩)⟩, ⟨Kd.Q_of_R (by (with_reducible repeat (first | apply Kd.R_alloc | apply Kd.R_drewN | apply Kd.R_drew)); exact Kd.R_mono HO10016.out (fun _ hk => ⟨hk.1.2, hk.2⟩))⟩, ⟨Kd.Q_of_R (by (with_reducible repeat (first | apply Kd.R_alloc | apply Kd.R_drewN | apply Kd.R_drew)); exact Kd.R_mono HO10024.out (fun _ hk => ⟨hk.1.2, hk.2⟩))⟩, ⟨by (with_reducible repeat (first | refine blk_drewN ?_ _ | refine blk_drew ?_ | refine blk_alloc ?_ _)); exact BK10010.out⟩, ⟨by (with_reducible repeat (first | refine blk_drewN ?_ _ | refine blk_drew ?_ | refine blk_alloc ?_ _)); exact BK10018.out⟩, ⟨by (with_reducible repeat (first | refine blk_drewN ?_ _ | refine blk_drew ?_ | refine blk_alloc ?_ _)); exact BK10026.out⟩, ⟨by repeat (first | (with_reducible first | exact HB.out | apply below_alloc | apply pw_below_drewN | apply below_drew1 | refine below_set ?_ GE10010.out | refine below_set ?_ GE10018.out | refine below_set ?_ GE10026.out) | exact HB.out)⟩⟩
  case rest =>
   clear HC6
   try clear c1
   try clear c2
   try clear c2b0
   try clear c2b1
   try clear p2
   try clear c3
   try clear c4
   try clear c9
   try clear c12
   try clear c14
   try clear c15
   try clear c20
   try clear c21
   try clear c24
   try clear c25
   try clear c26
   try clear c26b0
   try clear c26b1
   try clear c27
   try clear c28
   try clear c30
   try clear c33
   try clear c34
   try clear c36
   try clear c39
   try clear c40
   try clear c42
   try clear hcz15_0
   try clear hcz15_1
   try clear hcz15_2
   try clear hcz15_3
   try clear hcz17_0
   try clear hcz17_1
   try clear hcz17_2
   try clear hcz17_3
   try clear hcz22_0
   try clear hcz22_1
   try clear hcz22_2
   try clear hcz22_3
   try clear hcz29_0
   try clear hcz29_1
   try clear hcz29_2
   try clear hcz29_3
   try clear hcz31_0
   try clear hcz31_1
   try clear hcz31_2
   try clear hcz31_3
   try clear hcz35_0
   try clear hcz35_1
   try clear hcz35_2
   try clear hcz35_3
   try clear hcz37_0
   try clear hcz37_1
   try clear hcz37_2
   try clear hcz37_3
   try clear hcz41_0
   try clear hcz41_1
   try clear hcz41_2
   try clear hcz41_3
   try clear hcz43_0
   try clear hcz43_1
   try clear hcz43_2
   try clear hcz43_3
   try clear hcz9_0
   try clear hcz9_1
   try clear hcz9_2
   try clear hcz9_3
   try clear hfz15_0
   try clear hfz15_1
   try clear hfz15_2
   try clear hfz15_3
   try clear hfz17_0
   try clear hfz17_1
   try clear hfz17_2
   try clear hfz17_3
   try clear hfz22_0
   try clear hfz22_1
   try clear hfz22_2
   try clear hfz22_3
   try clear hfz29_0
   try clear hfz29_1
   try clear hfz29_2
   try clear hfz29_3
   try clear hfz31_0
   try clear hfz31_1
   try clear hfz31_2
   try clear hfz31_3
   try clear hfz35_0
   try clear hfz35_1
   try clear hfz35_2
   try clear hfz35_3
   try clear hfz37_0
   try clear hfz37_1
   try clear hfz37_2
   try clear hfz37_3
   try clear hfz41_0
   try clear hfz41_1
   try clear hfz41_2
   try clear hfz41_3
   try clear hfz43_0
   try clear hfz43_1
   try clear hfz43_2
   try clear hfz43_3
   try clear hfz9_0
   try clear hfz9_1
   try clear hfz9_2
   try clear hfz9_3
   obtain ⟨kq, x46_5, rfl, HA, HJ5, HO_4, HO_10011003, HO_10019003, HO_10027003, BK10010, BK10018, BK10026, HB⟩ := hcut
   cases kq with
   | zero => exact absurd HA.out (by simp [laws_FnSimplifySteps.j0])
   | succ kj5 =>
    have H := HA.out
    clear HA
    simp only [laws_FnSimplifySteps.j0] at H
    by_cases c45 : x46_5 = true
    ·subst c45
     have H1 : ((laws_equalImage.f kj5 t10011 t10012 t10013 t10014 t10019 t10020 t10021 t10022).bind fun t10028 => (if t10028 = true then (some (t10017 == t10025)) else (some false))) = some r := by rw [if_pos rfl] at H; exact H
     clear H
     have H := H1
     clear H1
     replace H := Option.bind_eq_some_iff.mp H
     obtain ⟨t10028, A460, H⟩ := H
     replace H : (if t10028 = true then (some (t10017 == t10025)) else (some false)) = some r := H
     have A46 := mk A460
     clear A460
     by_cases c47 : t10028 = true
     ·subst c47
      have H1 : (some (t10017 == t10025)) = some r := by rw [if_pos rfl] at H; exact H
      clear H
      have H := H1
      clear H1
      obtain rfl := Option.some.inj H
      have hnb48 := NB10018_10010.out
      have hnc48 := NB10010_10018.out
      have hnb49 := NB10018_10026.out
      have hnc49 := NB10026_10018.out
      have hcz50_0 : wc.cell? ⟨gb10018, 0, none⟩ = some (.int .i64 t10011) := (blk_cell BK10018.out 0).trans rfl
      have hcz50_1 : wc.cell? ⟨gb10018, 1, none⟩ = some (.int .i64 t10012) := (blk_cell BK10018.out 1).trans rfl
      have hcz50_2 : wc.cell? ⟨gb10018, 2, none⟩ = some (.int .i64 t10013) := (blk_cell BK10018.out 2).trans rfl
      have hcz50_3 : wc.cell? ⟨gb10018, 3, none⟩ = some (.slice Ao16 t10014.length co16) := (blk_cell BK10018.out 3).trans rfl
      have hfz50_0 := blk_frozen BK10018.out 0
      have hfz50_1 := blk_frozen BK10018.out 1
      have hfz50_2 := blk_frozen BK10018.out 2
      have hfz50_3 := blk_frozen BK10018.out 3
      have hnb51 := NB10026_10010.out
      have hnc51 := NB10010_10026.out
      have hcz52_0 : wc.cell? ⟨gb10026, 0, none⟩ = some (.int .i64 t10019) := (blk_cell BK10026.out 0).trans rfl
      have hcz52_1 : wc.cell? ⟨gb10026, 1, none⟩ = some (.int .i64 t10020) := (blk_cell BK10026.out 1).trans rfl
      have hcz52_2 : wc.cell? ⟨gb10026, 2, none⟩ = some (.int .i64 t10021) := (blk_cell BK10026.out 2).trans rfl
      have hcz52_3 : wc.cell? ⟨gb10026, 3, none⟩ = some (.slice Ao23 t10022.length co23) := (blk_cell BK10026.out 3).trans rfl
      have hfz52_0 := blk_frozen BK10026.out 0
      have hfz52_1 := blk_frozen BK10026.out 1
      have hfz52_2 := blk_frozen BK10026.out 2
      have hfz52_3 := blk_frozen BK10026.out 3
      go_wp2_with (first | ((with_reducible refine gate_callee (f := 24) rfl ?_); refine goesL_ (some 49) rfl rfl Try.func24 (by kernel_rfl) rfl #[.agg #[.int .i64 t10011, .int .i64 t10012, .int .i64 t10013, .slice Ao16 t10014.length co16], .agg #[.int .i64 t10019, .int .i64 t10020, .int .i64 t10021, .slice Ao23 t10022.length co23]] rfl (by (try simp only [List.map_toArray, List.map_cons, List.map_nil]); first | done | rfl | (simp only [List.length_drop, List.length_take]; rfl)) ?_; (with_reducible refine (laws_equalImage.calls kj5 t10011 t10012 t10013 _ _ t10014 t10019 t10020 t10021 _ _ t10022 true _ ?side1 ?side2 ?side3 ?side4 A46.out).mono ?_); (case side1 => repeat (first | exact (Kd.Q_reads' HO_10019003.out).2.2 | (with_reducible refine Kd.C_alloc ?_ _) | (with_reducible refine Kd.C_drewN ?_ _) | (with_reducible refine Kd.C_drew ?_))); (case side2 => exact (Kd.Q_reads' HO_10019003.out).2.1); (case side3 => repeat (first | exact (Kd.Q_reads' HO_10027003.out).2.2 | (with_reducible refine Kd.C_alloc ?_ _) | (with_reducible refine Kd.C_drewN ?_ _) | (with_reducible refine Kd.C_drew ?_))); (case side4 => exact (Kd.Q_reads' HO_10027003.out).2.1); rintro e w53 ⟨rfl, hb⟩; refine ⟨_, rfl, ?_⟩; have n0_ := mk (Kd.N_below (by (with_reducible repeat (first | apply Kd.N_alloc | apply Kd.N_drewN | apply Kd.N_drew)); exact HO_4.out) hb); have n1_ := mk (Kd.Q_below (by (with_reducible repeat (first | apply Kd.Q_alloc | apply Kd.Q_drewN | apply Kd.Q_drew)); exact HO_10011003.out) hb); have n2_ := mk (Kd.Q_below (by (with_reducible repeat (first | apply Kd.Q_alloc | apply Kd.Q_drewN | apply Kd.Q_drew)); exact HO_10019003.out) hb); have n3_ := mk (Kd.Q_below (by (with_reducible repeat (first | apply Kd.Q_alloc | apply Kd.Q_drewN | apply Kd.Q_drew)); exact HO_10027003.out) hb); have n4_ := mk (blk_below (g := gb10010) (o := .cells #[.int .i64 t10001, .int .i64 t10002, .int .i64 t10003, .slice Ao10 t10004.length co10] 28 (0, 0)) (by (with_reducible repeat (first | refine blk_drewN ?_ _ | refine blk_drew ?_ | refine blk_alloc ?_ _)); exact BK10010.out) hb); have n5_ := mk (blk_below (g := gb10018) (o := .cells #[.int .i64 t10011, .int .i64 t10012, .int .i64 t10013, .slice Ao16 t10014.length co16] 28 (0, 0)) (by (with_reducible repeat (first | refine blk_drewN ?_ _ | refine blk_drew ?_ | refine blk_alloc ?_ _)); exact BK10018.out) hb); have n6_ := mk (blk_below (g := gb10026) (o := .cells #[.int .i64 t10019, .int .i64 t10020, .int .i64 t10021, .slice Ao23 t10022.length co23] 28 (0, 0)) (by (with_reducible repeat (first | refine blk_drewN ?_ _ | refine blk_drew ?_ | refine blk_alloc ?_ _)); exact BK10026.out) hb); have n7_ := mk (below_step (by repeat (first | (with_reducible first | exact HB.out | apply below_alloc | apply pw_below_drewN | apply below_drew1 | refine below_set ?_ GE10010.out | refine below_set ?_ GE10018.out | refine below_set ?_ GE10026.out) | exact HB.out)) hb); clear HO_4; clear HO_10011003; clear HO_10019003; clear HO_10027003; clear BK10010; clear BK10018; clear BK10026; clear HB; have HO_4 := n0_; have HO_10011003 := n1_; have HO_10019003 := n2_; have HO_10027003 := n3_; have BK10010 := n4_; have BK10018 := n5_; have BK10026 := n6_; have HB := n7_; clear n0_ n1_ n2_ n3_ n4_ n5_ n6_ n7_; (try clear hb); (try clear hb2); (try clear hk); (try clear hi)))
      go_ret
      exact ⟨by first | rfl | (simp [errW_none, errW_some] <;> rfl) | (simp [*, errW_none, errW_some] <;> rfl), by repeat (first | (with_reducible first | exact HB.out | apply below_alloc | apply pw_below_drewN | apply below_drew1 | refine below_set ?_ GE10010.out | refine below_set ?_ GE10018.out | refine below_set ?_ GE10026.out) | exact HB.out)⟩
     ·replace c47 := Bool.eq_false_iff.mpr c47
      subst c47
      have H1 : (some false) = some r := by rw [if_neg (show ¬ (false = true) by decide)] at H; exact H
      clear H
      have H := H1
      clear H1
      exact absurd ((Option.some.inj H).trans HRT.out) (by decide)
    ·replace c45 := Bool.eq_false_iff.mpr c45
     subst c45
     have H1 : ((impl_SimplifySteps.f t10007).bind fun t10029 => ((impl_RunSteps.f kj5 t10001 t10002 t10003 t10004 t10029).bind fun bt10032 => (if bt10032.2.2.2.2 = (t10029.length : Int) then ((laws_equalImage.f kj5 bt10032.1 bt10032.2.1 bt10032.2.2.1 bt10032.2.2.2.1 t10011 t10012 t10013 t10014).bind fun t10040 => (if t10040 = true then (some (decide ((t10029.length : Int) ≤ (t10007.length : Int)))) else (some false))) else (some false)))) = some r := by rw [if_neg (show ¬ (false = true) by decide)] at H; exact H
     clear H
     have H := H1
     clear H1
     replace H := Option.bind_eq_some_iff.mp H
     obtain ⟨t10029, A600, H⟩ := H
     replace H : ((impl_RunSteps.f kj5 t10001 t10002 t10003 t10004 t10029).bind fun bt10032 => (if bt10032.2.2.2.2 = (t10029.length : Int) then ((laws_equalImage.f kj5 bt10032.1 bt10032.2.1 bt10032.2.2.1 bt10032.2.2.2.1 t10011 t10012 t10013 t10014).bind fun t10040 => (if t10040 = true then (some (decide ((t10029.length : Int) ≤ (t10007.length : Int)))) else (some false))) else (some false))) = some r := H
     have A60 := mk A600
     clear A600
     replace H := Option.bind_eq_some_iff.mp H
     obtain ⟨⟨t10032, t10033, t10034, t10035, t10038⟩, A610, H⟩ := H
     replace H : (if t10038 = (t10029.length : Int) then ((laws_equalImage.f kj5 t10032 t10033 t10034 t10035 t10011 t10012 t10013 t10014).bind fun t10040 => (if t10040 = true then (some (decide ((t10029.length : Int) ≤ (t10007.length : Int)))) else (some false))) else (some false)) = some r := H
     have A61 := mk A610
     clear A610
     by_cases c62 : t10038 = (t10029.length : Int)
     ·rw [if_pos c62] at H
      have c62b0 : (t10038 == (t10029.length : Int)) = true := beq_iff_eq.mpr c62
      have c62b1 : (t10038 != (t10029.length : Int)) = false := bne_eq_false_iff_eq.mpr c62
      clear c62
      replace H := Option.bind_eq_some_iff.mp H
      obtain ⟨t10040, A630, H⟩ := H
      replace H : (if t10040 = true then (some (decide ((t10029.length : Int) ≤ (t10007.length : Int)))) else (some false)) = some r := H
      have A63 := mk A630
      clear A630
      by_cases c64 : t10040 = true
      ·subst c64
       have H1 : (some (decide ((t10029.length : Int) ≤ (t10007.length : Int)))) = some r := by rw [if_pos rfl] at H; exact H
       clear H
       have H := H1
       clear H1
       obtain rfl := Option.some.inj H
       go_wp2_with (first | ((with_reducible refine gate_callee (f := 37) rfl ?_); refine goesL_ (some 56) rfl rfl Try.func37 (by kernel_rfl) rfl #[.slice Ao11 t10007.length co11] rfl (by (try simp only [List.map_toArray, List.map_cons, List.map_nil]); first | done | rfl | (simp only [List.length_drop, List.length_take]; rfl)) ?_; (with_reducible refine (impl_SimplifySteps.calls _ _ t10007 t10029 _ ?side1 ?side2 A60.out).mono ?_); (case side1 => repeat (first | exact (Kd.N_reads' HO_4.out).2.2 | (with_reducible refine Kd.C_alloc ?_ _) | (with_reducible refine Kd.C_drewN ?_ _) | (with_reducible refine Kd.C_drew ?_))); (case side2 => exact (Kd.N_reads' HO_4.out).2.1); rintro e w65 ⟨v10030, rfl, ho0, hb⟩; refine ⟨_, rfl, ?_⟩; have n0_ := mk (Kd.N_elder' (by (with_reducible repeat (first | apply Kd.N_alloc | apply Kd.N_drewN | apply Kd.N_drew)); exact HO_4.out) (Kd.R_base ho0) hb); have n1_ := mk (Kd.Q_below (by (with_reducible repeat (first | apply Kd.Q_alloc | apply Kd.Q_drewN | apply Kd.Q_drew)); exact HO_10011003.out) hb); have n2_ := mk (Kd.Q_below (by (with_reducible repeat (first | apply Kd.Q_alloc | apply Kd.Q_drewN | apply Kd.Q_drew)); exact HO_10019003.out) hb); have n3_ := mk (Kd.Q_below (by (with_reducible repeat (first | apply Kd.Q_alloc | apply Kd.Q_drewN | apply Kd.Q_drew)); exact HO_10027003.out) hb); have n4_ := mk (Kd.N_lower (Kd.N_mono (ok' := fun k_ => some k_ ≠ (.slice Ao11 t10007.length co11 : Value).ownBlock ∧ some k_ ≠ (.slice Ao10 t10004.length co10 : Value).ownBlock ∧ some k_ ≠ (.slice Ao16 t10014.length co16 : Value).ownBlock ∧ some k_ ≠ (.slice Ao23 t10022.length co23 : Value).ownBlock ∧ k_ ≠ gb10010 ∧ k_ ≠ gb10018 ∧ k_ ≠ gb10026) (Kd.R_N (Kd.R_bound ho0)) (fun k_ hk_ => ⟨(Kd.fresh' (Kd.N_lt (by (with_reducible repeat (first | apply Kd.N_alloc | apply Kd.N_drewN | apply Kd.N_drew)); exact HO_4.out)) k_ hk_.2.1), (Kd.fresh' (Kd.Q_lt (by (with_reducible repeat (first | apply Kd.Q_alloc | apply Kd.Q_drewN | apply Kd.Q_drew)); exact HO_10011003.out)) k_ hk_.2.1), (Kd.fresh' (Kd.Q_lt (by (with_reducible repeat (first | apply Kd.Q_alloc | apply Kd.Q_drewN | apply Kd.Q_drew)); exact HO_10019003.out)) k_ hk_.2.1), (Kd.fresh' (Kd.Q_lt (by (with_reducible repeat (first | apply Kd.Q_alloc | apply Kd.Q_drewN | apply Kd.Q_drew)); exact HO_10027003.out)) k_ hk_.2.1), (Kd.freshB (g := gb10010) (o := .cells #[.int .i64 t10001, .int .i64 t10002, .int .i64 t10003, .slice Ao10 t10004.length co10] 28 (0, 0)) (by (with_reducible repeat (first | refine blk_drewN ?_ _ | refine blk_drew ?_ | refine blk_alloc ?_ _)); exact BK10010.out) k_ hk_.2.1), (Kd.freshB (g := gb10018) (o := .cells #[.int .i64 t10011, .int .i64 t10012, .int .i64 t10013, .slice Ao16 t10014.length co16] 28 (0, 0)) (by (with_reducible repeat (first | refine blk_drewN ?_ _ | refine blk_drew ?_ | refine blk_alloc ?_ _)); exact BK10018.out) k_ hk_.2.1), (Kd.freshB (g := gb10026) (o := .cells #[.int .i64 t10019, .int .i64 t10020, .int .i64 t10021, .slice Ao23 t10022.length co23] 28 (0, 0)) (by (with_reducible repeat (first | refine blk_drewN ?_ _ | refine blk_drew ?_ | refine blk_alloc ?_ _)); exact BK10026.out) k_ hk_.2.1)⟩)) (below_size (by repeat (first | (with_reducible first | exact HB.out | apply below_alloc | apply pw_below_drewN | apply below_drew1 | refine below_set ?_ GE10010.out | refine below_set ?_ GE10018.out | refine below_set ?_ GE10026.out) | exact HB.out)))); have n5_ := mk (blk_below (g := gb10010) (o := .cells #[.int .i64 t10001, .int .i64 t10002, .int .i64 t10003, .slice Ao10 t10004.length co10] 28 (0, 0)) (by (with_reducible repeat (first | refine blk_drewN ?_ _ | refine blk_drew ?_ | refine blk_alloc ?_ _)); exact BK10010.out) hb); have n6_ := mk (blk_below (g := gb10018) (o := .cells #[.int .i64 t10011, .int .i64 t10012, .int .i64 t10013, .slice Ao16 t10014.length co16] 28 (0, 0)) (by (with_reducible repeat (first | refine blk_drewN ?_ _ | refine blk_drew ?_ | refine blk_alloc ?_ _)); exact BK10018.out) hb); have n7_ := mk (blk_below (g := gb10026) (o := .cells #[.int .i64 t10019, .int .i64 t10020, .int .i64 t10021, .slice Ao23 t10022.length co23] 28 (0, 0)) (by (with_reducible repeat (first | refine blk_drewN ?_ _ | refine blk_drew ?_ | refine blk_alloc ?_ _)); exact BK10026.out) hb); have n8_ := mk (below_step (by repeat (first | (with_reducible first | exact HB.out | apply below_alloc | apply pw_below_drewN | apply below_drew1 | refine below_set ?_ GE10010.out | refine below_set ?_ GE10018.out | refine below_set ?_ GE10026.out) | exact HB.out)) hb); clear HO_4; clear HO_10011003; clear HO_10019003; clear HO_10027003; clear BK10010; clear BK10018; clear BK10026; clear HB; have HO_4 := n0_; have HO_10011003 := n1_; have HO_10019003 := n2_; have HO_10027003 := n3_; have HO10031 := n4_; have BK10010 := n5_; have BK10018 := n6_; have BK10026 := n7_; have HB := n8_; clear n0_ n1_ n2_ n3_ n4_ n5_ n6_ n7_ n8_; (try clear hb); (try clear hb2); (try clear hk); (try clear hi); (try clear ho0); have hnb66 := NB10010_10018.out; have hnc66 := NB10018_10010.out; have hnb67 := NB10010_10026.out; have hnc67 := NB10026_10010.out; have hcz68_0 : w65.cell? ⟨gb10010, 0, none⟩ = some (.int .i64 t10001) := (blk_cell BK10010.out 0).trans rfl; have hcz68_1 : w65.cell? ⟨gb10010, 1, none⟩ = some (.int .i64 t10002) := (blk_cell BK10010.out 1).trans rfl; have hcz68_2 : w65.cell? ⟨gb10010, 2, none⟩ = some (.int .i64 t10003) := (blk_cell BK10010.out 2).trans rfl; have hcz68_3 : w65.cell? ⟨gb10010, 3, none⟩ = some (.slice Ao10 t10004.length co10) := (blk_cell BK10010.out 3).trans rfl; have hfz68_0 := blk_frozen BK10010.out 0; have hfz68_1 := blk_frozen BK10010.out 1; have hfz68_2 := blk_frozen BK10010.out 2; have hfz68_3 := blk_frozen BK10010.out 3; obtain ⟨Ao69, co69, eo69⟩ := Kd.N_slice HO10031.out; subst eo69) | ((with_reducible refine gate_callee (f := 15) rfl ?_); refine goesL_ (some 60) rfl rfl Try.func15 (by kernel_rfl) rfl #[.agg #[.int .i64 t10001, .int .i64 t10002, .int .i64 t10003, .slice Ao10 t10004.length co10], .slice Ao69 t10029.length co69] rfl (by (try simp only [List.map_toArray, List.map_cons, List.map_nil]); first | done | rfl | (simp only [List.length_drop, List.length_take]; rfl)) ?_; (with_reducible refine (impl_RunSteps.calls kj5 t10001 t10002 t10003 _ _ t10004 _ _ t10029 t10032 t10033 t10034 t10035 t10038 _ ?side1 ?side2 ?side3 ?side4 A61.out).mono ?_); (case side1 => repeat (first | exact (Kd.Q_reads' HO_10011003.out).2.2 | (with_reducible refine Kd.C_alloc ?_ _) | (with_reducible refine Kd.C_drewN ?_ _) | (with_reducible refine Kd.C_drew ?_))); (case side2 => exact (Kd.Q_reads' HO_10011003.out).2.1); (case side3 => repeat (first | exact (Kd.N_reads' HO10031.out).2.2 | (with_reducible refine Kd.C_alloc ?_ _) | (with_reducible refine Kd.C_drewN ?_ _) | (with_reducible refine Kd.C_drew ?_))); (case side4 => exact (Kd.N_reads' HO10031.out).2.1); rintro e w70 ⟨v10036, rfl, ho0, hb⟩; refine ⟨_, rfl, ?_⟩; have n0_ := mk (Kd.N_elder' (by (with_reducible repeat (first | apply Kd.N_alloc | apply Kd.N_drewN | apply Kd.N_drew)); exact HO_4.out) (Kd.R_base ho0) hb); have n1_ := mk (Kd.Q_elder' (by (with_reducible repeat (first | apply Kd.Q_alloc | apply Kd.Q_drewN | apply Kd.Q_drew)); exact HO_10011003.out) (Kd.R_base ho0) hb); have n2_ := mk (Kd.Q_elder' (by (with_reducible repeat (first | apply Kd.Q_alloc | apply Kd.Q_drewN | apply Kd.Q_drew)); exact HO_10019003.out) (Kd.R_base ho0) hb); have n3_ := mk (Kd.Q_elder' (by (with_reducible repeat (first | apply Kd.Q_alloc | apply Kd.Q_drewN | apply Kd.Q_drew)); exact HO_10027003.out) (Kd.R_base ho0) hb); have n4_ := mk (Kd.N_elder' (by (with_reducible repeat (first | apply Kd.N_alloc | apply Kd.N_drewN | apply Kd.N_drew)); exact HO10031.out) (Kd.R_base ho0) hb); have n5_ := mk (Kd.R_lower (Kd.R_new' (Kd.R_new' (Kd.R_new' ho0 (Kd.Q_lt (by (with_reducible repeat (first | apply Kd.Q_alloc | apply Kd.Q_drewN | apply Kd.Q_drew)); exact HO_10011003.out))) (Kd.Q_lt (by (with_reducible repeat (first | apply Kd.Q_alloc | apply Kd.Q_drewN | apply Kd.Q_drew)); exact HO_10019003.out))) (Kd.Q_lt (by (with_reducible repeat (first | apply Kd.Q_alloc | apply Kd.Q_drewN | apply Kd.Q_drew)); exact HO_10027003.out))) (below_size (by repeat (first | (with_reducible first | exact HB.out | apply below_alloc | apply pw_below_drewN | apply below_drew1 | refine below_set ?_ GE10010.out | refine below_set ?_ GE10018.out | refine below_set ?_ GE10026.out) | exact HB.out)))); have n6_ := mk (blk_below (g := gb10010) (o := .cells #[.int .i64 t10001, .int .i64 t10002, .int .i64 t10003, .slice Ao10 t10004.length co10] 28 (0, 0)) (by (with_reducible repeat (first | refine blk_drewN ?_ _ | refine blk_drew ?_ | refine blk_alloc ?_ _)); exact BK10010.out) hb); have n7_ := mk (blk_below (g := gb10018) (o := .cells #[.int .i64 t10011, .int .i64 t10012, .int .i64 t10013, .slice Ao16 t10014.length co16] 28 (0, 0)) (by (with_reducible repeat (first | refine blk_drewN ?_ _ | refine blk_drew ?_ | refine blk_alloc ?_ _)); exact BK10018.out) hb); have n8_ := mk (blk_below (g := gb10026) (o := .cells #[.int .i64 t10019, .int .i64 t10020, .int .i64 t10021, .slice Ao23 t10022.length co23] 28 (0, 0)) (by (with_reducible repeat (first | refine blk_drewN ?_ _ | refine blk_drew ?_ | refine blk_alloc ?_ _)); exact BK10026.out) hb); have n9_ := mk (below_step (by repeat (first | (with_reducible first | exact HB.out | apply below_alloc | apply pw_below_drewN | apply below_drew1 | refine below_set ?_ GE10010.out | refine below_set ?_ GE10018.out | refine below_set ?_ GE10026.out) | exact HB.out)) hb); clear HO_4; clear HO_10011003; clear HO_10019003; clear HO_10027003; clear HO10031; clear BK10010; clear BK10018; clear BK10026; clear HB; have HO_4 := n0_; have HO_10011003 := n1_; have HO_10019003 := n2_; have HO_10027003 := n3_; have HO10031 := n4_; have HO10037 := n5_; have BK10010 := n6_; have BK10018 := n7_; have BK10026 := n8_; have HB := n9_; clear n0_ n1_ n2_ n3_ n4_ n5_ n6_ n7_ n8_ n9_; (try clear hb); (try clear hb2); (try clear hk); (try clear hi); (try clear ho0)) | ((with_reducible refine gate_dst (N := 10) rfl ?_); (try (refine gate_guard (by rfl) ?_; dsimp only)); refine box_event ?hg (N := 10) ?hd (cs := #[.int .i64 0, .int .i64 0, .int .i64 0, .slice none 0 0]) (t := 28) ?hr ?_; (case hd => rfl); (case hg => rfl); (case hr => first | (go_simp; done) | (go_simp; rfl)); intro gb10039 hg w71 hbox hb; have n0_ := mk (Kd.N_below (Kd.N_elderB (by (with_reducible repeat (first | apply Kd.N_alloc | apply Kd.N_drewN | apply Kd.N_drew)); exact HO_4.out) gb10039 (Nat.le_of_eq hg.symm)) hb); have n1_ := mk (Kd.Q_below (by (with_reducible repeat (first | apply Kd.Q_alloc | apply Kd.Q_drewN | apply Kd.Q_drew)); exact HO_10011003.out) hb); have n2_ := mk (Kd.Q_below (by (with_reducible repeat (first | apply Kd.Q_alloc | apply Kd.Q_drewN | apply Kd.Q_drew)); exact HO_10019003.out) hb); have n3_ := mk (Kd.Q_below (by (with_reducible repeat (first | apply Kd.Q_alloc | apply Kd.Q_drewN | apply Kd.Q_drew)); exact HO_10027003.out) hb); have n4_ := mk (Kd.N_below (Kd.N_elderB (by (with_reducible repeat (first | apply Kd.N_alloc | apply Kd.N_drewN | apply Kd.N_drew)); exact HO10031.out) gb10039 (Nat.le_of_eq hg.symm)) hb); have n5_ := mk (Kd.R_below (by (with_reducible repeat (first | apply Kd.R_alloc | apply Kd.R_drewN | apply Kd.R_drew)); exact HO10037.out) hb); have n6_ := mk (blk_below (g := gb10010) (o := .cells #[.int .i64 t10001, .int .i64 t10002, .int .i64 t10003, .slice Ao10 t10004.length co10] 28 (0, 0)) (by (with_reducible repeat (first | refine blk_drewN ?_ _ | refine blk_drew ?_ | refine blk_alloc ?_ _)); exact BK10010.out) hb); have n7_ := mk (blk_below (g := gb10018) (o := .cells #[.int .i64 t10011, .int .i64 t10012, .int .i64 t10013, .slice Ao16 t10014.length co16] 28 (0, 0)) (by (with_reducible repeat (first | refine blk_drewN ?_ _ | refine blk_drew ?_ | refine blk_alloc ?_ _)); exact BK10018.out) hb); have n8_ := mk (blk_below (g := gb10026) (o := .cells #[.int .i64 t10019, .int .i64 t10020, .int .i64 t10021, .slice Ao23 t10022.length co23] 28 (0, 0)) (by (with_reducible repeat (first | refine blk_drewN ?_ _ | refine blk_drew ?_ | refine blk_alloc ?_ _)); exact BK10026.out) hb); have n9_ := mk (below_step (by repeat (first | (with_reducible first | exact HB.out | apply below_alloc | apply pw_below_drewN | apply below_drew1 | refine below_set ?_ GE10010.out | refine below_set ?_ GE10018.out | refine below_set ?_ GE10026.out) | exact HB.out)) hb); have n10_ := mk (hbox); have n11_ := mk ((by rw [hg]; exact (below_size (by repeat (first | (with_reducible first | exact HB.out | apply below_alloc | apply pw_below_drewN | apply below_drew1 | refine below_set ?_ GE10010.out | refine below_set ?_ GE10018.out | refine below_set ?_ GE10026.out) | exact HB.out))) : w.heap.size ≤ gb10039)); have n12_ := mk ((by rw [hg]; exact (below_size (by repeat (first | (with_reducible first | exact HB.out | apply below_alloc | apply pw_below_drewN | apply below_drew1 | refine below_set ?_ GE10010.out | refine below_set ?_ GE10018.out | refine below_set ?_ GE10026.out) | exact HB.out))) : w.heap.size ≤ gb10039)); have n13_ := mk ((by rw [hg]; exact Nat.ne_of_lt (blk_lt (g := gb10010) (o := .cells #[.int .i64 t10001, .int .i64 t10002, .int .i64 t10003, .slice Ao10 t10004.length co10] 28 (0, 0)) (by (with_reducible repeat (first | refine blk_drewN ?_ _ | refine blk_drew ?_ | refine blk_alloc ?_ _)); exact BK10010.out)) : gb10010 ≠ gb10039)); have n14_ := mk ((by rw [hg]; exact Nat.ne_of_gt (blk_lt (g := gb10010) (o := .cells #[.int .i64 t10001, .int .i64 t10002, .int .i64 t10003, .slice Ao10 t10004.length co10] 28 (0, 0)) (by (with_reducible repeat (first | refine blk_drewN ?_ _ | refine blk_drew ?_ | refine blk_alloc ?_ _)); exact BK10010.out)) : gb10039 ≠ gb10010)); have n15_ := mk ((by rw [hg]; exact Nat.ne_of_lt (blk_lt (g := gb10018) (o := .cells #[.int .i64 t10011, .int .i64 t10012, .int .i64 t10013, .slice Ao16 t10014.length co16] 28 (0, 0)) (by (with_reducible repeat (first | refine blk_drewN ?_ _ | refine blk_drew ?_ | refine blk_alloc ?_ _)); exact BK10018.out)) : gb10018 ≠ gb10039)); have n16_ := mk ((by rw [hg]; exact Nat.ne_of_gt (blk_lt (g := gb10018) (o := .cells #[.int .i64 t10011, .int .i64 t10012, .int .i64 t10013, .slice Ao16 t10014.length co16] 28 (0, 0)) (by (with_reducible repeat (first | refine blk_drewN ?_ _ | refine blk_drew ?_ | refine blk_alloc ?_ _)); exact BK10018.out)) : gb10039 ≠ gb10018)); have n17_ := mk ((by rw [hg]; exact Nat.ne_of_lt (blk_lt (g := gb10026) (o := .cells #[.int .i64 t10019, .int .i64 t10020, .int .i64 t10021, .slice Ao23 t10022.length co23] 28 (0, 0)) (by (with_reducible repeat (first | refine blk_drewN ?_ _ | refine blk_drew ?_ | refine blk_alloc ?_ _)); exact BK10026.out)) : gb10026 ≠ gb10039)); have n18_ := mk ((by rw [hg]; exact Nat.ne_of_gt (blk_lt (g := gb10026) (o := .cells #[.int .i64 t10019, .int .i64 t10020, .int .i64 t10021, .slice Ao23 t10022.length co23] 28 (0, 0)) (by (with_reducible repeat (first | refine blk_drewN ?_ _ | refine blk_drew ?_ | refine blk_alloc ?_ _)); exact BK10026.out)) : gb10039 ≠ gb10026)); clear HO_4; clear HO_10011003; clear HO_10019003; clear HO_10027003; clear HO10031; clear HO10037; clear BK10010; clear BK10018; clear BK10026; clear HB; have HO_4 := n0_; have HO_10011003 := n1_; have HO_10019003 := n2_; have HO_10027003 := n3_; have HO10031 := n4_; have HO10037 := n5_; have BK10010 := n6_; have BK10018 := n7_; have BK10026 := n8_; have HB := n9_; have BK10039 := n10_; have GW10039 := n11_; have GE10039 := n12_; have NB10010_10039 := n13_; have NB10039_10010 := n14_; have NB10018_10039 := n15_; have NB10039_10018 := n16_; have NB10026_10039 := n17_; have NB10039_10026 := n18_; clear n0_ n1_ n2_ n3_ n4_ n5_ n6_ n7_ n8_ n9_ n10_ n11_ n12_ n13_ n14_ n15_ n16_ n17_ n18_; clear hb hbox hg; have hnb72 := NB10039_10010.out; have hnc72 := NB10010_10039.out; have hnb73 := NB10039_10018.out; have hnc73 := NB10018_10039.out; have hnb74 := NB10039_10026.out; have hnc74 := NB10026_10039.out; have hcz75_0 : w71.cell? ⟨gb10039, 0, none⟩ = some (.int .i64 0) := (blk_cell BK10039.out 0).trans rfl; have hcz75_1 : w71.cell? ⟨gb10039, 1, none⟩ = some (.int .i64 0) := (blk_cell BK10039.out 1).trans rfl; have hcz75_2 : w71.cell? ⟨gb10039, 2, none⟩ = some (.int .i64 0) := (blk_cell BK10039.out 2).trans rfl; have hcz75_3 : w71.cell? ⟨gb10039, 3, none⟩ = some (.slice none 0 0) := (blk_cell BK10039.out 3).trans rfl; have hfz75_0 := blk_frozen BK10039.out 0; have hfz75_1 := blk_frozen BK10039.out 1; have hfz75_2 := blk_frozen BK10039.out 2; have hfz75_3 := blk_frozen BK10039.out 3; obtain ⟨Ao76, co76, eo76⟩ := Kd.R_slice HO10037.out; subst eo76; have hnb77 := NB10018_10026.out; have hnc77 := NB10026_10018.out; have hcz78_0 : w71.cell? ⟨gb10018, 0, none⟩ = some (.int .i64 t10011) := (blk_cell BK10018.out 0).trans rfl; have hcz78_1 : w71.cell? ⟨gb10018, 1, none⟩ = some (.int .i64 t10012) := (blk_cell BK10018.out 1).trans rfl; have hcz78_2 : w71.cell? ⟨gb10018, 2, none⟩ = some (.int .i64 t10013) := (blk_cell BK10018.out 2).trans rfl; have hcz78_3 : w71.cell? ⟨gb10018, 3, none⟩ = some (.slice Ao16 t10014.length co16) := (blk_cell BK10018.out 3).trans rfl; have hfz78_0 := blk_frozen BK10018.out 0; have hfz78_1 := blk_frozen BK10018.out 1; have hfz78_2 := blk_frozen BK10018.out 2; have hfz78_3 := blk_frozen BK10018.out 3) | (go_at_call 24; (with_reducible refine (laws_equalImage.calls kj5 t10032 t10033 t10034 _ _ t10035 t10011 t10012 t10013 _ _ t10014 true _ ?side1 ?side2 ?side3 ?side4 A63.out).mono ?_); (case side1 => refine (Kd.R_reads' (e := 3) (base := w.heap.size) (ok := fun k_ => (((True ∧ some k_ ≠ (.slice Ao10 t10004.length co10 : Value).ownBlock) ∧ some k_ ≠ (.slice Ao16 t10014.length co16 : Value).ownBlock) ∧ some k_ ≠ (.slice Ao23 t10022.length co23 : Value).ownBlock)) (n := t10035.length) (c := co76) ?_).2.2; exact (by (with_reducible repeat (first | apply Kd.R_alloc | apply Kd.R_drewN | apply Kd.R_drew)); exact (Kd.R_mono (Kd.R_far (p := ⟨gb10039, 3, none⟩) (Kd.R_far (p := ⟨gb10039, 2, none⟩) (Kd.R_far (p := ⟨gb10039, 1, none⟩) (Kd.R_far (p := ⟨gb10039, 0, none⟩) (Kd.R_types HO10037.out BK10039.out (by decide)) (fun _ hk => hk.2) (.int .i64 t10032)) (fun _ hk => hk.2) (.int .i64 t10033)) (fun _ hk => hk.2) (.int .i64 t10034)) (fun _ hk => hk.2) (.slice Ao76 t10035.length co76)) (fun _ h_ => h_.1)))); (case side2 => exact (Kd.R_reads' HO10037.out).2.1); (case side3 => refine (Kd.Q_reads' (e := 3) (base := w.heap.size) (ok := fun k_ => ((some k_ ≠ (.slice Ao10 t10004.length co10 : Value).ownBlock ∧ some k_ ≠ (.slice Ao23 t10022.length co23 : Value).ownBlock) ∧ some k_ ≠ (.slice Ao76 t10035.length co76 : Value).ownBlock)) (n := t10014.length) (c := co16) ?_).2.2; exact (by (with_reducible repeat (first | apply Kd.Q_alloc | apply Kd.Q_drewN | apply Kd.Q_drew)); exact (Kd.Q_mono (Kd.Q_far (p := ⟨gb10039, 3, none⟩) (Kd.Q_far (p := ⟨gb10039, 2, none⟩) (Kd.Q_far (p := ⟨gb10039, 1, none⟩) (Kd.Q_far (p := ⟨gb10039, 0, none⟩) (Kd.Q_types HO_10019003.out BK10039.out (by decide)) (fun _ hk => hk.2) (.int .i64 t10032)) (fun _ hk => hk.2) (.int .i64 t10033)) (fun _ hk => hk.2) (.int .i64 t10034)) (fun _ hk => hk.2) (.slice Ao76 t10035.length co76)) (fun _ h_ => h_.1)))); (case side4 => exact (Kd.Q_reads' HO_10019003.out).2.1); rintro e w79 ⟨rfl, hb⟩; have n0_ := mk (Kd.N_below (by (with_reducible repeat (first | apply Kd.N_alloc | apply Kd.N_drewN | apply Kd.N_drew)); exact (Kd.N_mono (Kd.N_far (p := ⟨gb10039, 3, none⟩) (Kd.N_far (p := ⟨gb10039, 2, none⟩) (Kd.N_far (p := ⟨gb10039, 1, none⟩) (Kd.N_far (p := ⟨gb10039, 0, none⟩) (Kd.N_mono HO_4.out (fun k_ hk => (⟨hk, hk.2⟩ : _ ∧ k_ ≠ gb10039))) (fun _ hk => hk.2) (.int .i64 t10032)) (fun _ hk => hk.2) (.int .i64 t10033)) (fun _ hk => hk.2) (.int .i64 t10034)) (fun _ hk => hk.2) (.slice Ao76 t10035.length co76)) (fun _ h_ => h_.1))) hb); have n1_ := mk (Kd.Q_below (by (with_reducible repeat (first | apply Kd.Q_alloc | apply Kd.Q_drewN | apply Kd.Q_drew)); exact (Kd.Q_mono (Kd.Q_far (p := ⟨gb10039, 3, none⟩) (Kd.Q_far (p := ⟨gb10039, 2, none⟩) (Kd.Q_far (p := ⟨gb10039, 1, none⟩) (Kd.Q_far (p := ⟨gb10039, 0, none⟩) (Kd.Q_types HO_10011003.out BK10039.out (by decide)) (fun _ hk => hk.2) (.int .i64 t10032)) (fun _ hk => hk.2) (.int .i64 t10033)) (fun _ hk => hk.2) (.int .i64 t10034)) (fun _ hk => hk.2) (.slice Ao76 t10035.length co76)) (fun _ h_ => h_.1))) hb); have n2_ := mk (Kd.Q_below (by (with_reducible repeat (first | apply Kd.Q_alloc | apply Kd.Q_drewN | apply Kd.Q_drew)); exact (Kd.Q_mono (Kd.Q_far (p := ⟨gb10039, 3, none⟩) (Kd.Q_far (p := ⟨gb10039, 2, none⟩) (Kd.Q_far (p := ⟨gb10039, 1, none⟩) (Kd.Q_far (p := ⟨gb10039, 0, none⟩) (Kd.Q_types HO_10019003.out BK10039.out (by decide)) (fun _ hk => hk.2) (.int .i64 t10032)) (fun _ hk => hk.2) (.int .i64 t10033)) (fun _ hk => hk.2) (.int .i64 t10034)) (fun _ hk => hk.2) (.slice Ao76 t10035.length co76)) (fun _ h_ => h_.1))) hb); have n3_ := mk (Kd.Q_below (by (with_reducible repeat (first | apply Kd.Q_alloc | apply Kd.Q_drewN | apply Kd.Q_drew)); exact (Kd.Q_mono (Kd.Q_far (p := ⟨gb10039, 3, none⟩) (Kd.Q_far (p := ⟨gb10039, 2, none⟩) (Kd.Q_far (p := ⟨gb10039, 1, none⟩) (Kd.Q_far (p := ⟨gb10039, 0, none⟩) (Kd.Q_types HO_10027003.out BK10039.out (by decide)) (fun _ hk => hk.2) (.int .i64 t10032)) (fun _ hk => hk.2) (.int .i64 t10033)) (fun _ hk => hk.2) (.int .i64 t10034)) (fun _ hk => hk.2) (.slice Ao76 t10035.length co76)) (fun _ h_ => h_.1))) hb); have n4_ := mk (Kd.N_below (by (with_reducible repeat (first | apply Kd.N_alloc | apply Kd.N_drewN | apply Kd.N_drew)); exact (Kd.N_mono (Kd.N_far (p := ⟨gb10039, 3, none⟩) (Kd.N_far (p := ⟨gb10039, 2, none⟩) (Kd.N_far (p := ⟨gb10039, 1, none⟩) (Kd.N_far (p := ⟨gb10039, 0, none⟩) (Kd.N_mono HO10031.out (fun k_ hk => (⟨hk, hk.2⟩ : _ ∧ k_ ≠ gb10039))) (fun _ hk => hk.2) (.int .i64 t10032)) (fun _ hk => hk.2) (.int .i64 t10033)) (fun _ hk => hk.2) (.int .i64 t10034)) (fun _ hk => hk.2) (.slice Ao76 t10035.length co76)) (fun _ h_ => h_.1))) hb); have n5_ := mk (Kd.R_below (by (with_reducible repeat (first | apply Kd.R_alloc | apply Kd.R_drewN | apply Kd.R_drew)); exact (Kd.R_mono (Kd.R_far (p := ⟨gb10039, 3, none⟩) (Kd.R_far (p := ⟨gb10039, 2, none⟩) (Kd.R_far (p := ⟨gb10039, 1, none⟩) (Kd.R_far (p := ⟨gb10039, 0, none⟩) (Kd.R_types HO10037.out BK10039.out (by decide)) (fun _ hk => hk.2) (.int .i64 t10032)) (fun _ hk => hk.2) (.int .i64 t10033)) (fun _ hk => hk.2) (.int .i64 t10034)) (fun _ hk => hk.2) (.slice Ao76 t10035.length co76)) (fun _ h_ => h_.1))) hb); have n6_ := mk (blk_below (g := gb10010) (o := .cells #[.int .i64 t10001, .int .i64 t10002, .int .i64 t10003, .slice Ao10 t10004.length co10] 28 (0, 0)) (by (with_reducible repeat (first | refine blk_drewN ?_ _ | refine blk_drew ?_ | refine blk_alloc ?_ _)); refine blk_far ?_ NB10010_10039.out _; (with_reducible repeat (first | refine blk_drewN ?_ _ | refine blk_drew ?_ | refine blk_alloc ?_ _)); refine blk_far ?_ NB10010_10039.out _; (with_reducible repeat (first | refine blk_drewN ?_ _ | refine blk_drew ?_ | refine blk_alloc ?_ _)); refine blk_far ?_ NB10010_10039.out _; (with_reducible repeat (first | refine blk_drewN ?_ _ | refine blk_drew ?_ | refine blk_alloc ?_ _)); refine blk_far ?_ NB10010_10039.out _; (with_reducible repeat (first | refine blk_drewN ?_ _ | refine blk_drew ?_ | refine blk_alloc ?_ _)); exact BK10010.out) hb); have n7_ := mk (blk_below (g := gb10018) (o := .cells #[.int .i64 t10011, .int .i64 t10012, .int .i64 t10013, .slice Ao16 t10014.length co16] 28 (0, 0)) (by (with_reducible repeat (first | refine blk_drewN ?_ _ | refine blk_drew ?_ | refine blk_alloc ?_ _)); refine blk_far ?_ NB10018_10039.out _; (with_reducible repeat (first | refine blk_drewN ?_ _ | refine blk_drew ?_ | refine blk_alloc ?_ _)); refine blk_far ?_ NB10018_10039.out _; (with_reducible repeat (first | refine blk_drewN ?_ _ | refine blk_drew ?_ | refine blk_alloc ?_ _)); refine blk_far ?_ NB10018_10039.out _; (with_reducible repeat (first | refine blk_drewN ?_ _ | refine blk_drew ?_ | refine blk_alloc ?_ _)); refine blk_far ?_ NB10018_10039.out _; (with_reducible repeat (first | refine blk_drewN ?_ _ | refine blk_drew ?_ | refine blk_alloc ?_ _)); exact BK10018.out) hb); have n8_ := mk (blk_below (g := gb10026) (o := .cells #[.int .i64 t10019, .int .i64 t10020, .int .i64 t10021, .slice Ao23 t10022.length co23] 28 (0, 0)) (by (with_reducible repeat (first | refine blk_drewN ?_ _ | refine blk_drew ?_ | refine blk_alloc ?_ _)); refine blk_far ?_ NB10026_10039.out _; (with_reducible repeat (first | refine blk_drewN ?_ _ | refine blk_drew ?_ | refine blk_alloc ?_ _)); refine blk_far ?_ NB10026_10039.out _; (with_reducible repeat (first | refine blk_drewN ?_ _ | refine blk_drew ?_ | refine blk_alloc ?_ _)); refine blk_far ?_ NB10026_10039.out _; (with_reducible repeat (first | refine blk_drewN ?_ _ | refine blk_drew ?_ | refine blk_alloc ?_ _)); refine blk_far ?_ NB10026_10039.out _; (with_reducible repeat (first | refine blk_drewN ?_ _ | refine blk_drew ?_ | refine blk_alloc ?_ _)); exact BK10026.out) hb); have n9_ := mk (blk_below (g := gb10039) (o := .cells #[.int .i64 t10032, .int .i64 t10033, .int .i64 t10034, .slice Ao76 t10035.length co76] 28 (0, 0)) (by (with_reducible repeat (first | refine blk_drewN ?_ _ | refine blk_drew ?_ | refine blk_alloc ?_ _)); refine blk_put (cs := #[.int .i64 t10032, .int .i64 t10033, .int .i64 t10034, .slice none 0 0]) ?_ 3 _ rfl; (with_reducible repeat (first | refine blk_drewN ?_ _ | refine blk_drew ?_ | refine blk_alloc ?_ _)); refine blk_put (cs := #[.int .i64 t10032, .int .i64 t10033, .int .i64 0, .slice none 0 0]) ?_ 2 _ rfl; (with_reducible repeat (first | refine blk_drewN ?_ _ | refine blk_drew ?_ | refine blk_alloc ?_ _)); refine blk_put (cs := #[.int .i64 t10032, .int .i64 0, .int .i64 0, .slice none 0 0]) ?_ 1 _ rfl; (with_reducible repeat (first | refine blk_drewN ?_ _ | refine blk_drew ?_ | refine blk_alloc ?_ _)); refine blk_put (cs := #[.int .i64 0, .int .i64 0, .int .i64 0, .slice none 0 0]) ?_ 0 _ rfl; (with_reducible repeat (first | refine blk_drewN ?_ _ | refine blk_drew ?_ | refine blk_alloc ?_ _)); exact BK10039.out) hb); have n10_ := mk (below_step (by repeat (first | (with_reducible first | exact HB.out | apply below_alloc | apply pw_below_drewN | apply below_drew1 | refine below_set ?_ GE10010.out | refine below_set ?_ GE10018.out | refine below_set ?_ GE10026.out | refine below_set ?_ GE10039.out) | exact HB.out)) hb); clear HO_4; clear HO_10011003; clear HO_10019003; clear HO_10027003; clear HO10031; clear HO10037; clear BK10010; clear BK10018; clear BK10026; clear BK10039; clear HB; have HO_4 := n0_; have HO_10011003 := n1_; have HO_10019003 := n2_; have HO_10027003 := n3_; have HO10031 := n4_; have HO10037 := n5_; have BK10010 := n6_; have BK10018 := n7_; have BK10026 := n8_; have BK10039 := n9_; have HB := n10_; clear n0_ n1_ n2_ n3_ n4_ n5_ n6_ n7_ n8_ n9_ n10_; (try clear hb); (try clear hb2); (try clear hk); (try clear hi)))
       go_ret
       exact ⟨by first | rfl | (simp [errW_none, errW_some] <;> rfl) | (simp [*, errW_none, errW_some] <;> rfl), by repeat (first | (with_reducible first | exact HB.out | apply below_alloc | apply pw_below_drewN | apply below_drew1 | refine below_set ?_ GE10010.out | refine below_set ?_ GE10018.out | refine below_set ?_ GE10026.out | refine below_set ?_ GE10039.out) | exact HB.out)⟩
      ·replace c64 := Bool.eq_false_iff.mpr c64
       subst c64
       have H1 : (some false) = some r := by rw [if_neg (show ¬ (false = true) by decide)] at H; exact H
       clear H
       have H := H1
       clear H1
       exact absurd ((Option.some.inj H).trans HRT.out) (by decide)
     ·rw [if_neg c62] at H
      have c62b0 : (t10038 == (t10029.length : Int)) = false := beq_eq_false_iff_ne.mpr c62
      have c62b1 : (t10038 != (t10029.length : Int)) = true := bne_iff_ne.mpr c62
      exact absurd ((Option.some.inj H).trans HRT.out) (by decide)

def laws_FnSimplifySteps.Pure : Prop := ∀ (l0 : List Int), l0.length ≤ maxLen → l0.length * 1 ≤ 140737488351232 → (∀ x ∈ l0, (Lit.int .u8 x).wf = true) → ∃ k, laws_FnSimplifySteps.f k l0 = some true
theorem laws_FnSimplifySteps.walk (P : laws_FnSimplifySteps.Pure) (a0 : Option Addr) (len0 cap0 : Nat) (z0 : List Int) (w : World) (w0 : (a0 = none ∧ len0 = 0 ∧ cap0 = 0 ∧ z0 = []) ∨ ∃ x, a0 = some x ∧ len0 ≤ cap0 ∧ cap0 ≤ maxLen ∧ z0.length = cap0 ∧ (∀ i, i < z0.length → w.cell? (x.add i) = some (.int .u8 (z0.getD i 0))) ∧ ∀ n ∈ z0, (Lit.int .u8 n).wf = true) (y0 : len0 * 1 ≤ 140737488351232) :
  Calls Try.prog 9 #[.slice a0 len0 cap0] w fun e w' => e = .returned (.bool true) ∧ Below w.heap.size w w' := by
 obtain ⟨l0, rfl, hr0, hm0, hw0, hc0⟩ := ReadsInt.ofRowC w0
 obtain ⟨k, h⟩ := P l0 hm0 y0 hw0
 refine (laws_FnSimplifySteps.calls k _ _ l0 true w (Kd.C_of_reads (d := (0 : Int)) (h1 := fun _ => rfl) hr0) hc0 h rfl).mono ?_
 rintro e w' ⟨rfl, hd⟩
 exact ⟨rfl, hd⟩

end Go.Proofs.Ytgccpcnakkioiaa.Q

/- Images as pixels: lists of numbers cut into equal parts. -/
namespace Go.Proofs.Ytgccpcnakkioiaa.Pure
open Go.RowKit Go.Proofs.Ytgccpcnakkioiaa.Q Go.Proofs.YtgccpcnakkioiaaW.PrintWords Go.Proofs.YtgccpcnakkioiaaW.PrintLast Go.Proofs.YtgccpcnakkioiaaW.PrintMore
set_option linter.unusedVariables false
set_option linter.unusedSimpArgs false

def nx (n : Nat) (d : List Int) (i : Nat) : List Int := (d.drop (i * n)).take n
theorem nx_length {n m : Nat} {d : List Int} (hd : d.length = m * n) {i : Nat} (hi : i < m) : (nx n d i).length = n := by
 unfold nx
 have h : (i + 1) * n ≤ m * n := Nat.mul_le_mul_right n hi
 rw [Nat.add_mul, Nat.one_mul] at h
 rw [List.length_take, List.length_drop, hd]
 omega
theorem fm_length (f : Nat → List Int) (n : Nat) : ∀ m, (∀ i, i < m → (f i).length = n) → ((List.range m).flatMap f).length = m * n := by
 intro m
 induction m with
 | zero => intro _; simp
 | succ m ih =>
  intro h
  rw [List.range_succ, List.flatMap_append, List.length_append, ih (fun i hi => h i (by omega))]
  simp [h m (by omega), Nat.add_mul]
theorem fm_get (f : Nat → List Int) (n : Nat) : ∀ m, (∀ i, i < m → (f i).length = n) → ∀ i, i < m → nx n ((List.range m).flatMap f) i = f i := by
 intro m
 induction m with
 | zero => intro _ i hi; omega
 | succ m ih =>
  intro h i hi
  have hl := fm_length f n m (fun i hi => h i (by omega))
  rw [List.range_succ, List.flatMap_append]
  unfold nx
  by_cases c : i < m
  ·have h1 : (i + 1) * n ≤ m * n := Nat.mul_le_mul_right n c
   rw [Nat.add_mul, Nat.one_mul] at h1
   rw [List.drop_append_of_le_length (by omega), List.take_append_of_le_length (by rw [List.length_drop]; omega)]
   exact ih (fun i hi => h i (by omega)) i c
  ·have : i = m := by omega
   subst this
   rw [← hl, List.drop_left]
   simp only [List.flatMap_cons, List.flatMap_nil, List.append_nil]
   exact List.take_of_length_le (by rw [h i (by omega)]; exact Nat.le_refl _)
theorem fm_cut (n : Nat) : ∀ (m : Nat) (d : List Int), d.length = m * n → (List.range m).flatMap (nx n d) = d := by
 intro m
 induction m with
 | zero => intro d hd; simp at hd; simp [hd]
 | succ m ih =>
  intro d hd
  rw [Nat.add_mul, Nat.one_mul] at hd
  have h1 : (List.range m).flatMap (nx n d) = (List.range m).flatMap (nx n (d.take (m * n))) := by
   rw [List.flatMap_def, List.flatMap_def]
   congr 1
   refine List.map_congr_left (fun i hi => ?_)
   have hi' := List.mem_range.1 hi
   have h1 : (i + 1) * n ≤ m * n := Nat.mul_le_mul_right n hi'
   rw [Nat.add_mul, Nat.one_mul] at h1
   unfold nx
   rw [List.drop_take, List.take_take, Nat.min_eq_left (by omega)]
  rw [List.range_succ, List.flatMap_append, h1, ih _ (by rw [List.length_take]; omega)]
  simp only [List.flatMap_cons, List.flatMap_nil, List.append_nil]
  unfold nx
  rw [List.take_of_length_le (l := d.drop (m * n)) (by rw [List.length_drop]; omega), List.take_append_drop]
theorem ext_nx {n m : Nat} {d e : List Int} (hd : d.length = m * n) (he : e.length = m * n) (h : ∀ i, i < m → nx n d i = nx n e i) : d = e := by
 rw [← fm_cut n m d hd, ← fm_cut n m e he, List.flatMap_def, List.flatMap_def]
 congr 1
 exact List.map_congr_left (fun i hi => h i (List.mem_range.1 hi))
theorem imgD_congr {f g : Nat → Nat → List Int} {a b : Nat} (h : ∀ x y, x < a → y < b → f x y = g x y) : imgD f a b = imgD g a b := by
 unfold imgD rowD
 rw [List.flatMap_def, List.flatMap_def]
 congr 1
 refine List.map_congr_left (fun y hy => ?_)
 rw [List.flatMap_def, List.flatMap_def]
 congr 1
 exact List.map_congr_left (fun x hx => h x y (List.mem_range.1 hx) (List.mem_range.1 hy))
theorem rowD_length {px : Nat → Nat → List Int} {a n y : Nat} (h : ∀ x, x < a → (px x y).length = n) : (rowD px a y).length = a * n := fm_length _ n a h
theorem imgD_length {px : Nat → Nat → List Int} {a b n : Nat} (h : ∀ x y, x < a → y < b → (px x y).length = n) : (imgD px a b).length = (b * a) * n := by
 rw [Nat.mul_assoc]
 exact fm_length _ (a * n) b (fun y hy => rowD_length (fun x hx => h x y hx hy))
theorem nx_imgD {px : Nat → Nat → List Int} {a b n : Nat} (h : ∀ x y, x < a → y < b → (px x y).length = n) {x y : Nat} (hx : x < a) (hy : y < b) : nx n (imgD px a b) (y * a + x) = px x y := by
 have h1 := fm_get (rowD px a) (a * n) b (fun y hy => rowD_length (fun x hx => h x y hx hy)) y hy
 have h2 := fm_get (fun x => px x y) n a (fun x hx => h x y hx hy) x hx
 have h3 : (x + 1) * n ≤ a * n := Nat.mul_le_mul_right n hx
 rw [Nat.add_mul, Nat.one_mul] at h3
 show nx n ((List.range b).flatMap (rowD px a)) (y * a + x) = px x y
 rw [← h2]
 show _ = nx n (rowD px a y) x
 rw [← h1]
 unfold nx
 rw [List.drop_take, List.take_take, Nat.min_eq_left (by omega), List.drop_drop, Nat.add_mul, Nat.mul_assoc]
theorem lin_lt {a b x y : Nat} (hx : x < a) (hy : y < b) : y * a + x < b * a := by
 have : (y + 1) * a ≤ b * a := Nat.mul_le_mul_right a hy
 rw [Nat.add_mul, Nat.one_mul] at this
 omega
theorem lin_ne {a x y x' y' : Nat} (hx : x < a) (hx' : x' < a) (h : y * a + x = y' * a + x') : x = x' ∧ y = y' := by
 have ha : 0 < a := by omega
 have e1 := congrArg (· % a) h
 have e2 := congrArg (· / a) h
 simp only [Nat.mul_comm _ a, Nat.mul_add_mod, Nat.mul_add_div ha, Nat.mod_eq_of_lt hx, Nat.mod_eq_of_lt hx', Nat.div_eq_of_lt hx, Nat.div_eq_of_lt hx', Nat.add_zero] at e1 e2
 exact ⟨e1, e2⟩
theorem lin_of {a b i : Nat} (h : i < b * a) : i % a < a ∧ i / a < b ∧ (i / a) * a + i % a = i := by
 have ha : 0 < a := by
  rcases Nat.eq_zero_or_pos a with rfl | h'
  ·simp at h
  ·exact h'
 refine ⟨Nat.mod_lt _ ha, (Nat.div_lt_iff_lt_mul ha).2 h, ?_⟩
 rw [Nat.mul_comm]; exact Nat.div_add_mod i a
theorem ext_img {n a b : Nat} {d e : List Int} (hd : d.length = (b * a) * n) (he : e.length = (b * a) * n) (h : ∀ x y, x < a → y < b → nx n d (y * a + x) = nx n e (y * a + x)) : d = e := by
 refine ext_nx hd he (fun i hi => ?_)
 obtain ⟨h1, h2, h3⟩ := lin_of hi
 rw [← h3]
 exact h _ _ h1 h2
theorem nx_laid {n m : Nat} {d ys : List Int} (hd : d.length = m * n) (hy : ys.length = n) {j : Nat} (hj : j < m) {i : Nat} (hi : i < m) : nx n (laidOver d (j * n) ys) i = if i = j then ys else nx n d i := by
 have hj1 : (j + 1) * n ≤ m * n := Nat.mul_le_mul_right n hj
 have hi1 : (i + 1) * n ≤ m * n := Nat.mul_le_mul_right n hi
 rw [Nat.add_mul, Nat.one_mul] at hj1 hi1
 unfold nx laidOver
 have hlt : (d.take (j * n)).length = j * n := by rw [List.length_take]; omega
 by_cases c : i = j
 ·subst c
  rw [if_pos rfl]
  have e1 : (d.take (i * n) ++ (ys ++ d.drop (i * n + ys.length))).drop (i * n) = ys ++ d.drop (i * n + ys.length) := by
   rw [List.drop_append, List.drop_eq_nil_of_le (by omega), hlt, Nat.sub_self, List.drop_zero, List.nil_append]
  rw [e1, ← hy, List.take_left]
 ·rw [if_neg c]
  by_cases c2 : i < j
  ·have h1 : (i + 1) * n ≤ j * n := Nat.mul_le_mul_right n c2
   rw [Nat.add_mul, Nat.one_mul] at h1
   rw [List.drop_append_of_le_length (by omega), List.take_append_of_le_length (by rw [List.length_drop]; omega), List.drop_take, List.take_take, Nat.min_eq_left (by omega)]
  ·have h1 : (j + 1) * n ≤ i * n := Nat.mul_le_mul_right n (by omega)
   rw [Nat.add_mul, Nat.one_mul] at h1
   rw [← List.append_assoc, List.drop_append, List.drop_eq_nil_of_le (by rw [List.length_append, hlt, hy]; omega), List.nil_append, List.drop_drop, List.length_append, hlt, hy]
   congr 2
   omega
theorem nat_of {a b p : Int} {d : List Int} (hv : validI a b p d = true) : ∃ an bn pn : Nat, a = an ∧ b = bn ∧ p = pn ∧ 1 ≤ an ∧ an ≤ 16 ∧ 1 ≤ bn ∧ bn ≤ 16 ∧ 1 ≤ pn ∧ pn ≤ 4 ∧ d.length = (bn * an) * pn := by
 obtain ⟨hs, hl, _⟩ := (validI_iff a b p d).1 hv
 obtain ⟨an, rfl⟩ := Int.eq_ofNat_of_zero_le (show 0 ≤ a by omega)
 obtain ⟨bn, rfl⟩ := Int.eq_ofNat_of_zero_le (show 0 ≤ b by omega)
 obtain ⟨pn, rfl⟩ := Int.eq_ofNat_of_zero_le (show 0 ≤ p by omega)
 refine ⟨an, bn, pn, rfl, rfl, rfl, by omega, by omega, by omega, by omega, by omega, by omega, ?_⟩
 have : (d.length : Int) = ((an * bn * pn : Nat) : Int) := by rw [hl]; push_cast; rfl
 rw [Nat.mul_comm bn an]
 exact Int.ofNat.inj this
theorem small {an bn pn : Nat} (h1 : an ≤ 16) (h2 : bn ≤ 16) (h3 : pn ≤ 4) : (bn * an) * pn ≤ 1024 := by
 have := Nat.mul_le_mul (Nat.mul_le_mul h2 h1) h3
 omega
theorem pixJ_nat {an bn pn x y : Nat} (h1 : an ≤ 16) (h2 : bn ≤ 16) (h3 : pn ≤ 4) (hx : x < an) (hy : y < bn) : pixJ an pn x y = (((y * an + x) * pn : Nat) : Int) ∧ (y * an + x) * pn + pn ≤ (bn * an) * pn := by
 have hl := lin_lt hx hy
 have hm : (y * an + x + 1) * pn ≤ (bn * an) * pn := Nat.mul_le_mul_right pn hl
 rw [Nat.add_mul, Nat.one_mul] at hm
 have hs := small h1 h2 h3
 have hya : y * an ≤ 16 * 16 := Nat.mul_le_mul (by omega) (by omega)
 refine ⟨?_, hm⟩
 unfold pixJ
 have e1 : ((y : Int) * (an : Int)) = ((y * an : Nat) : Int) := by push_cast; rfl
 rw [e1, w64 (x := ((y * an : Nat) : Int)) (by omega) (by omega)]
 have e2 : ((y * an : Nat) : Int) + (x : Int) = ((y * an + x : Nat) : Int) := by push_cast; rfl
 rw [e2, w64 (x := ((y * an + x : Nat) : Int)) (by omega) (by omega)]
 have e3 : ((y * an + x : Nat) : Int) * (pn : Int) = (((y * an + x) * pn : Nat) : Int) := by push_cast; rfl
 rw [e3, w64 (by omega) (by omega)]
theorem pxAt_nat {an bn pn x y : Nat} (h1 : an ≤ 16) (h2 : bn ≤ 16) (h3 : pn ≤ 4) (hx : x < an) (hy : y < bn) (d : List Int) : pxAt an pn d x y = nx pn d (y * an + x) := by
 obtain ⟨hj, hm⟩ := pixJ_nat h1 h2 h3 hx hy
 have hs := small h1 h2 h3
 unfold pxAt pixT nx
 rw [hj, w64 (by omega) (by omega)]
 have : ((((y * an + x) * pn : Nat) : Int) + (pn : Int)).toNat = (y * an + x) * pn + pn := by omega
 rw [this, Int.toNat_natCast, List.drop_take]
 congr 1
 omega

/- What the reference does with pixels: reads, writes, parts and pastes. -/

theorem ev_run {σ ρ : Type} (n : Nat) (L : Nat → Nat → σ → Option ρ) (E : σ → Nat → Option ρ) (Inv : Nat → σ → Prop)
  (step : ∀ i s, i < n → Inv i s → ∃ s', Inv (i + 1) s' ∧ ∀ r, Ev (fun k => L k (i + 1) s') r → Ev (fun k => L k i s) r)
  (last : ∀ s, Inv n s → ∀ r, Ev (E s) r → Ev (fun k => L k n s) r) :
  ∀ d i s, i + d = n → Inv i s → ∃ s', Inv n s' ∧ ∀ r, Ev (E s') r → Ev (fun k => L k i s) r := by
 intro d
 induction d with
 | zero =>
  intro i s hi hinv
  have : i = n := by omega
  subst this
  exact ⟨s, hinv, last s hinv⟩
 | succ d ih =>
  intro i s hi hinv
  obtain ⟨s1, h1, h2⟩ := step i s (by omega) hinv
  obtain ⟨s2, h3, h4⟩ := ih (i + 1) s1 (by omega) h1
  exact ⟨s2, h3, fun r hr => h2 r (h4 r hr)⟩
theorem copyInts_px (l : List Int) (hl : l.length ≤ 1000000) : spec_copyInts.f l = some l := by
 unfold spec_copyInts.f
 simp only [Option.bind_some]
 rw [if_pos (by simp; omega)]
 simp
theorem laid_set (d ys : List Int) (j i : Nat) (hi : i < ys.length) (hj : j + ys.length ≤ d.length) : (laidOver d j (ys.take i)).set (j + i) ys[i] = laidOver d j (ys.take (i + 1)) := by
 have h1 : (ys.take i).length = i := by rw [List.length_take]; omega
 have h2 : (ys.take (i + 1)).length = i + 1 := by rw [List.length_take]; omega
 have h3 : (d.take j).length = j := by rw [List.length_take]; omega
 unfold laidOver
 rw [h1, h2, List.set_append_right _ _ (by omega), h3, Nat.add_sub_cancel_left, List.set_append_right _ _ (by omega), h1, Nat.sub_self, List.drop_eq_getElem_cons (show j + i < d.length by omega), List.set_cons_zero, List.take_succ_eq_append_getElem hi, List.append_assoc]
 rfl
theorem setPixel_ev {an bn pn x y : Nat} (h1 : an ≤ 16) (h2 : bn ≤ 16) (h3 : pn ≤ 4) (hx : x < an) (hy : y < bn) (d ys : List Int) (hd : d.length = (bn * an) * pn) (hys : ys.length = pn) :
  Ev (fun k => spec_setPixel.f k an bn pn d x y ys) (laidOver d ((y * an + x) * pn) ys) := by
 obtain ⟨hj, hm⟩ := pixJ_nat h1 h2 h3 hx hy
 have hs := small h1 h2 h3
 have hJ : wrap64 ((wrap64 ((wrap64 ((y : Int) * (an : Int))) + (x : Int))) * (pn : Int)) = (((y * an + x) * pn : Nat) : Int) := hj
 generalize hjj : (y * an + x) * pn = j at *
 have HJ := Aside0.mk hJ
 clear hJ hj hjj
 have key := ev_up pn (fun k i s => spec_setPixel.l0 k (x : Int) (y : Int) ys (i : Int) an bn pn s) (fun i s => s = laidOver d j (ys.take i)) (fun _ _ => laidOver d j ys)
  (by
   intro i s hi hinv
   subst hinv
   right
   refine ⟨_, fun k => ?_, laid_set d ys j i (by omega) (by omega), rfl⟩
   simp only [spec_setPixel.l0]
   have e : (((j : Nat) : Int) + (i : Int)) = ((j + i : Nat) : Int) := by push_cast; rfl
   have hl : (laidOver d j (ys.take i)).length = d.length := laidOver_length d j _ (by rw [List.length_take]; omega)
   rw [HJ.out, e, w64 (x := ((j + i : Nat) : Int)) (by omega) (by omega), hl, if_pos (by omega), if_pos (by omega), if_pos (by omega), if_pos (by omega), if_pos (by omega), rd_nat ys i (by omega), w64n i (by omega), Int.toNat_natCast])
  (by
   intro s hinv
   subst hinv
   refine Ev.step (f := fun _ => some (laidOver d j ys)) (fun k => ?_) (Ev.now _)
   simp only [spec_setPixel.l0]
   rw [if_neg (by omega), List.take_of_length_le (by omega)])
  pn 0 d (by omega) (by unfold laidOver; simp)
 unfold spec_setPixel.f
 exact key
theorem pixelAt_eq {an bn pn x y : Nat} (h1 : an ≤ 16) (h2 : bn ≤ 16) (h3 : pn ≤ 4) (hx : x < an) (hy : y < bn) (d : List Int) (hd : d.length = (bn * an) * pn) : spec_pixelAt.f an bn pn d x y = some (nx pn d (y * an + x)) := by
 obtain ⟨hj, hm⟩ := pixJ_nat h1 h2 h3 hx hy
 have hs := small h1 h2 h3
 have hJ : wrap64 ((wrap64 ((wrap64 ((y : Int) * (an : Int))) + (x : Int))) * (pn : Int)) = (((y * an + x) * pn : Nat) : Int) := hj
 have e : ((((y * an + x) * pn : Nat) : Int) + (pn : Int)) = (((y * an + x) * pn + pn : Nat) : Int) := by push_cast; rfl
 have HJ := Aside0.mk hJ
 clear hJ hj
 unfold spec_pixelAt.f nx
 generalize (y * an + x) * pn = j at *
 rw [HJ.out, e, w64 (x := ((j + pn : Nat) : Int)) (by omega) (by omega), if_pos (by omega), if_pos (by omega), if_pos (by omega), Int.toNat_natCast, Int.toNat_natCast, copyInts_px _ (by rw [List.length_drop, List.length_take]; omega)]
 simp only [Option.bind_some]
 congr 1
 rw [List.drop_take]
 congr 1
 omega
theorem newImg_eq {wn hn pn : Nat} (h1 : wn ≤ 16) (h2 : hn ≤ 16) (h3 : pn ≤ 4) : spec_newImage.f wn hn pn = some ((wn : Int), (hn : Int), (pn : Int), List.replicate ((hn * wn) * pn) 0) := by
 have hs := small h1 h2 h3
 have hw : hn * wn ≤ 16 * 16 := Nat.mul_le_mul h2 h1
 have e1 : (wn : Int) * (hn : Int) = ((hn * wn : Nat) : Int) := by rw [Nat.mul_comm]; push_cast; rfl
 have e2 : ((hn * wn : Nat) : Int) * (pn : Int) = (((hn * wn) * pn : Nat) : Int) := by push_cast; rfl
 unfold spec_newImage.f
 rw [e1, w64 (x := ((hn * wn : Nat) : Int)) (by omega) (by omega), e2, w64 (by omega) (by omega), if_pos (by omega), Int.toNat_natCast, if_pos (by omega)]
def cropD (an pn : Nat) (d : List Int) (X Y wn hn : Nat) : List Int := imgD (fun x y => nx pn d ((Y + y) * an + (X + x))) wn hn
theorem cropD_len {an bn pn X Y wn hn : Nat} {d : List Int} (hd : d.length = (bn * an) * pn) (hX : X + wn ≤ an) (hY : Y + hn ≤ bn) : ∀ x y, x < wn → y < hn → (nx pn d ((Y + y) * an + (X + x))).length = pn := fun x y hx hy => nx_length hd (lin_lt (by omega) (by omega))
theorem crop_ev {an bn pn X Y wn hn : Nat} (h1 : an ≤ 16) (h2 : bn ≤ 16) (h3 : pn ≤ 4) (hX : X + wn ≤ an) (hY : Y + hn ≤ bn) (d : List Int) (hd : d.length = (bn * an) * pn) :
  Ev (fun k => spec_crop.f k an bn pn d X Y wn hn) ((wn : Int), (hn : Int), (pn : Int), cropD an pn d X Y wn hn) := by
 unfold spec_crop.f
 refine ev_now (newImg_eq (by omega) (by omega) h3) ?_
 have hlen := cropD_len hd hX hY
 have hfl : (cropD an pn d X Y wn hn).length = (hn * wn) * pn := imgD_length hlen
 have inner : ∀ (r : Nat), r < hn → ∀ s : List Int, (s.length = (hn * wn) * pn ∧ ∀ x y, x < wn → y < r → nx pn s (y * wn + x) = nx pn d ((Y + y) * an + (X + x))) →
   ∃ s' : List Int, (s'.length = (hn * wn) * pn ∧ ∀ x y, x < wn → y < r + 1 → nx pn s' (y * wn + x) = nx pn d ((Y + y) * an + (X + x))) ∧
    ∀ res, Ev (fun k => spec_crop.l0 k X Y wn hn ((r + 1 : Nat) : Int) an bn pn d wn hn pn s') res → Ev (fun k => spec_crop.l1 k X Y wn hn (r : Int) 0 an bn pn d wn hn pn s) res := by
  intro r hr s hs
  obtain ⟨s', h4, h5⟩ := ev_run wn (fun k c s => spec_crop.l1 k X Y wn hn (r : Int) (c : Int) an bn pn d wn hn pn s) (fun s k => spec_crop.l0 k X Y wn hn ((r + 1 : Nat) : Int) an bn pn d wn hn pn s)
   (fun c s => s.length = (hn * wn) * pn ∧ (∀ x y, x < wn → y < r → nx pn s (y * wn + x) = nx pn d ((Y + y) * an + (X + x))) ∧ ∀ x, x < c → nx pn s (r * wn + x) = nx pn d ((Y + r) * an + (X + x)))
   (by
    intro c s hc ⟨hsl, i1, i2⟩
    have hyl : (nx pn d ((Y + r) * an + (X + c))).length = pn := hlen c r hc hr
    have hlin := lin_lt hc hr
    have hm : (r * wn + c + 1) * pn ≤ (hn * wn) * pn := Nat.mul_le_mul_right pn hlin
    rw [Nat.add_mul, Nat.one_mul] at hm
    refine ⟨laidOver s ((r * wn + c) * pn) (nx pn d ((Y + r) * an + (X + c))), ⟨by rw [laidOver_length _ _ _ (by rw [hyl, hsl]; exact hm)]; exact hsl, ?_, ?_⟩, ?_⟩
    ·intro x y hx hy
     rw [nx_laid hsl hyl hlin (lin_lt hx (by omega)), if_neg (fun e => by have := (lin_ne hx hc e).2; omega)]
     exact i1 x y hx hy
    ·intro x hx
     rw [nx_laid hsl hyl hlin (lin_lt (by omega) hr)]
     by_cases e : x = c
     ·subst e; rw [if_pos rfl]
     ·rw [if_neg (by omega)]; exact i2 x (by omega)
    ·intro res hres
     refine Ev.step (f := fun k => (spec_pixelAt.f an bn pn d ((X + c : Nat) : Int) ((Y + r : Nat) : Int)).bind fun t => (spec_setPixel.f k wn hn pn s (c : Int) (r : Int) t).bind fun u => spec_crop.l1 k X Y wn hn (r : Int) ((c + 1 : Nat) : Int) an bn pn d wn hn pn u) (fun k => ?_) (ev_now (pixelAt_eq h1 h2 h3 (by omega) (by omega) d hd) (ev_bind (setPixel_ev (by omega) (by omega) h3 hc hr s _ hsl hyl) hres))
     simp only [spec_crop.l1]
     rw [if_pos (by omega), w64 (x := (X : Int) + (c : Int)) (by omega) (by omega), w64 (x := (Y : Int) + (r : Int)) (by omega) (by omega), w64n c (by omega)]
     push_cast
     rfl)
   (by
    intro s _ res hres
    refine Ev.step (fun k => ?_) hres
    simp only [spec_crop.l1]
    rw [if_neg (by omega), w64n r (by omega)])
   wn 0 s (by omega) ⟨hs.1, hs.2, fun x hx => by omega⟩
  refine ⟨s', ⟨h4.1, fun x y hx hy => ?_⟩, h5⟩
  by_cases e : y = r
  ·subst e; exact h4.2.2 x hx
  ·exact h4.2.1 x y hx (by omega)
 obtain ⟨s', h4, h5⟩ := ev_run hn (fun k r s => spec_crop.l0 k X Y wn hn (r : Int) an bn pn d wn hn pn s) (fun s _ => some ((wn : Int), (hn : Int), (pn : Int), s))
  (fun r s => s.length = (hn * wn) * pn ∧ ∀ x y, x < wn → y < r → nx pn s (y * wn + x) = nx pn d ((Y + y) * an + (X + x)))
  (by
   intro r s hr hs
   obtain ⟨s', i1, i2⟩ := inner r hr s hs
   refine ⟨s', i1, fun res hres => Ev.step (fun k => ?_) (i2 res hres)⟩
   simp only [spec_crop.l0]
   rw [if_pos (by omega)])
  (by
   intro s _ res hres
   refine Ev.step (fun k => ?_) hres
   simp only [spec_crop.l0]
   rw [if_neg (by omega)])
  hn 0 (List.replicate ((hn * wn) * pn) 0) (by omega) ⟨by simp, fun x y hx hy => by omega⟩
 have e : s' = cropD an pn d X Y wn hn := ext_img h4.1 hfl (fun x y hx hy => by rw [h4.2 x y hx hy]; unfold cropD; rw [nx_imgD hlen hx hy])
 subst e
 exact h5 _ (Ev.now _)
def pastePx (an pn : Nat) (d : List Int) (X Y : Int) (wn hn : Nat) (e : List Int) (x y : Nat) : List Int :=
 if X ≤ (x : Int) ∧ (x : Int) < X + wn ∧ Y ≤ (y : Int) ∧ (y : Int) < Y + hn then nx pn e (((y : Int) - Y).toNat * wn + ((x : Int) - X).toNat) else nx pn d (y * an + x)
theorem pastePx_len {an bn pn wn hn : Nat} {d e : List Int} {X Y : Int} (hd : d.length = (bn * an) * pn) (he : e.length = (hn * wn) * pn) : ∀ x y, x < an → y < bn → (pastePx an pn d X Y wn hn e x y).length = pn := by
 intro x y hx hy
 unfold pastePx
 split
 ·exact nx_length he (lin_lt (by omega) (by omega))
 ·exact nx_length hd (lin_lt hx hy)
theorem onImage_eq {an bn : Nat} (h1 : 1 ≤ an ∧ an ≤ 16) (h2 : 1 ≤ bn ∧ bn ≤ 16) (p : Int) (d : List Int) (x y : Int) : spec_onImage.f an bn p d x y = some (decide (0 ≤ x ∧ x < an ∧ 0 ≤ y ∧ y < bn)) := by
 unfold spec_onImage.f
 rw [w64 (x := (an : Int) - 1) (by omega) (by omega), w64 (x := (bn : Int) - 1) (by omega) (by omega), spec_inRangeI_eq, spec_inRangeI_eq]
 simp only [Option.bind_some]
 by_cases c : 0 ≤ x ∧ x ≤ (an : Int) - 1
 ·rw [if_pos (by simpa using c)]; congr 1; rw [Bool.eq_iff_iff]; simp; omega
 ·rw [if_neg (by simpa using c), decide_eq_false (by omega)]
theorem paste_ev {an bn pn wn hn : Nat} {X Y : Int} (h1 : 1 ≤ an ∧ an ≤ 16) (h2 : 1 ≤ bn ∧ bn ≤ 16) (h3 : pn ≤ 4) (h4 : wn ≤ 16) (h5 : hn ≤ 16) (hX : -16 ≤ X ∧ X ≤ 16) (hY : -16 ≤ Y ∧ Y ≤ 16) (d e : List Int) (hd : d.length = (bn * an) * pn) (he : e.length = (hn * wn) * pn) :
  Ev (fun k => spec_paste.f k an bn pn d X Y wn hn pn e) (imgD (pastePx an pn d X Y wn hn e) an bn) := by
 unfold spec_paste.f
 have hlen := pastePx_len (X := X) (Y := Y) hd he
 let I : Nat → Nat → List Int → Prop := fun r c s => s.length = (bn * an) * pn ∧ ∀ x y : Nat, x < an → y < bn → nx pn s (y * an + x) = if X ≤ (x : Int) ∧ (x : Int) < X + wn ∧ Y ≤ (y : Int) ∧ (y : Int) < Y + hn ∧ ((y : Int) < Y + r ∨ ((y : Int) = Y + r ∧ (x : Int) < X + c)) then nx pn e (((y : Int) - Y).toNat * wn + ((x : Int) - X).toNat) else nx pn d (y * an + x)
 have inner : ∀ (r : Nat), r < hn → ∀ s : List Int, I r 0 s → ∃ s' : List Int, I (r + 1) 0 s' ∧
    ∀ res, Ev (fun k => spec_paste.l0 k X Y ((r + 1 : Nat) : Int) an bn pn s' wn hn pn e) res → Ev (fun k => spec_paste.l1 k X Y (r : Int) 0 an bn pn s wn hn pn e) res := by
  intro r hr s hs
  obtain ⟨s', i4, i5⟩ := ev_run wn (fun k c s => spec_paste.l1 k X Y (r : Int) (c : Int) an bn pn s wn hn pn e) (fun s k => spec_paste.l0 k X Y ((r + 1 : Nat) : Int) an bn pn s wn hn pn e) (fun c s => I r c s)
   (by
    intro c s hc ⟨hsl, i1⟩
    have w1 := w64 (x := X + (c : Int)) (by omega) (by omega)
    have w2 := w64 (x := Y + (r : Int)) (by omega) (by omega)
    by_cases on : 0 ≤ X + (c : Int) ∧ X + (c : Int) < an ∧ 0 ≤ Y + (r : Int) ∧ Y + (r : Int) < bn
    ·obtain ⟨x0, hx0⟩ := Int.eq_ofNat_of_zero_le on.1
     obtain ⟨y0, hy0⟩ := Int.eq_ofNat_of_zero_le on.2.2.1
     have hx0a : x0 < an := by omega
     have hy0b : y0 < bn := by omega
     have hyl : (nx pn e (r * wn + c)).length = pn := nx_length he (lin_lt hc hr)
     have hlin := lin_lt hx0a hy0b
     have hm : (y0 * an + x0 + 1) * pn ≤ (bn * an) * pn := Nat.mul_le_mul_right pn hlin
     rw [Nat.add_mul, Nat.one_mul] at hm
     refine ⟨laidOver s ((y0 * an + x0) * pn) (nx pn e (r * wn + c)), ⟨by rw [laidOver_length _ _ _ (by rw [hyl, hsl]; exact hm)]; exact hsl, ?_⟩, ?_⟩
     ·intro x y hx hy
      rw [nx_laid hsl hyl hlin (lin_lt hx hy)]
      by_cases q : x = x0 ∧ y = y0
      ·obtain ⟨rfl, rfl⟩ := q
       rw [if_pos rfl, if_pos (by omega), show ((y : Int) - Y).toNat = r by omega, show ((x : Int) - X).toNat = c by omega]
      ·rw [if_neg (fun z => q (lin_ne hx hx0a z)), i1 x y hx hy]
       by_cases z : X ≤ (x : Int) ∧ (x : Int) < X + wn ∧ Y ≤ (y : Int) ∧ (y : Int) < Y + hn ∧ ((y : Int) < Y + r ∨ ((y : Int) = Y + r ∧ (x : Int) < X + c))
       ·rw [if_pos z, if_pos (by omega)]
       ·rw [if_neg z, if_neg (by omega)]
     ·intro res hres
      refine Ev.step (f := fun k => (spec_onImage.f an bn pn s (X + (c : Int)) (Y + (r : Int))).bind fun u => if u = true then ((spec_pixelAt.f wn hn pn e (c : Int) (r : Int)).bind fun t => (spec_setPixel.f k an bn pn s (X + (c : Int)) (Y + (r : Int)) t).bind fun v => spec_paste.l1 k X Y (r : Int) ((c + 1 : Nat) : Int) an bn pn v wn hn pn e) else spec_paste.l1 k X Y (r : Int) ((c + 1 : Nat) : Int) an bn pn s wn hn pn e) (fun k => ?_) (ev_now (onImage_eq h1 h2 _ _ _ _) (ev_pos (decide_eq_true on) (ev_now (pixelAt_eq h4 h5 h3 hc hr e he) (ev_bind ?_ hres))))
      ·simp only [spec_paste.l1]
       rw [if_pos (by omega), w1, w2, w64n c (by omega)]
      ·rw [hx0, hy0]
       exact setPixel_ev h1.2 h2.2 h3 hx0a hy0b s _ hsl hyl
    ·refine ⟨s, ⟨hsl, fun x y hx hy => ?_⟩, ?_⟩
     ·rw [i1 x y hx hy]
      by_cases z : X ≤ (x : Int) ∧ (x : Int) < X + wn ∧ Y ≤ (y : Int) ∧ (y : Int) < Y + hn ∧ ((y : Int) < Y + r ∨ ((y : Int) = Y + r ∧ (x : Int) < X + c))
      ·rw [if_pos z, if_pos (by omega)]
      ·rw [if_neg z, if_neg (by omega)]
     ·intro res hres
      refine Ev.step (f := fun k => (spec_onImage.f an bn pn s (X + (c : Int)) (Y + (r : Int))).bind fun u => if u = true then ((spec_pixelAt.f wn hn pn e (c : Int) (r : Int)).bind fun t => (spec_setPixel.f k an bn pn s (X + (c : Int)) (Y + (r : Int)) t).bind fun v => spec_paste.l1 k X Y (r : Int) ((c + 1 : Nat) : Int) an bn pn v wn hn pn e) else spec_paste.l1 k X Y (r : Int) ((c + 1 : Nat) : Int) an bn pn s wn hn pn e) (fun k => ?_) (ev_now (onImage_eq h1 h2 _ _ _ _) (ev_neg (by simpa using on) hres))
      simp only [spec_paste.l1]
      rw [if_pos (by omega), w1, w2, w64n c (by omega)])
   (by
    intro s _ res hres
    refine Ev.step (fun k => ?_) hres
    simp only [spec_paste.l1]
    rw [if_neg (by omega), w64n r (by omega)])
   wn 0 s (by omega) hs
  refine ⟨s', ⟨i4.1, fun x y hx hy => ?_⟩, i5⟩
  rw [i4.2 x y hx hy]
  by_cases z : X ≤ (x : Int) ∧ (x : Int) < X + wn ∧ Y ≤ (y : Int) ∧ (y : Int) < Y + hn ∧ ((y : Int) < Y + r ∨ ((y : Int) = Y + r ∧ (x : Int) < X + wn))
  ·rw [if_pos z, if_pos (by omega)]
  ·rw [if_neg z, if_neg (by omega)]
 obtain ⟨s', i4, i5⟩ := ev_run hn (fun k r s => spec_paste.l0 k X Y (r : Int) an bn pn s wn hn pn e) (fun s _ => some s) (fun r s => I r 0 s)
  (by
   intro r s hr hs
   obtain ⟨s', i1, i2⟩ := inner r hr s hs
   refine ⟨s', i1, fun res hres => Ev.step (fun k => ?_) (i2 res hres)⟩
   simp only [spec_paste.l0]
   rw [if_pos (by omega)])
  (by
   intro s _ res hres
   refine Ev.step (fun k => ?_) hres
   simp only [spec_paste.l0]
   rw [if_neg (by omega)])
  hn 0 d (by omega) ⟨hd, fun x y hx hy => by rw [if_neg (by omega)]⟩
 have q : s' = imgD (pastePx an pn d X Y wn hn e) an bn := ext_img i4.1 (imgD_length hlen) (fun x y hx hy => by
  rw [i4.2 x y hx hy, nx_imgD hlen hx hy]
  unfold pastePx
  by_cases z : X ≤ (x : Int) ∧ (x : Int) < X + wn ∧ Y ≤ (y : Int) ∧ (y : Int) < Y + hn
  ·rw [if_pos z, if_pos (by omega)]
  ·rw [if_neg z, if_neg (by omega)])
 subst q
 exact i5 _ (Ev.now _)

/- One step, as the program and the reference have it. -/

theorem copyImage_px (a b p : Int) (d : List Int) (hl : d.length ≤ 1000000) : spec_copyImage.f a b p d = some (a, b, p, d) := by
 unfold spec_copyImage.f
 rw [copyInts_px d hl]
 rfl
def mirD (an bn pn : Nat) (d : List Int) : List Int := imgD (fun x y => nx pn d (y * an + (an - 1 - x))) an bn
theorem mirD_len {an bn pn : Nat} {d : List Int} (h1 : 1 ≤ an) (h2 : 1 ≤ bn) (hd : d.length = (bn * an) * pn) : ∀ x y, x < an → y < bn → (nx pn d (y * an + (an - 1 - x))).length = pn := fun x y hx hy => nx_length hd (lin_lt (by omega) (by omega))
theorem mirror_ev {an bn pn : Nat} (h1 : 1 ≤ an ∧ an ≤ 16) (h2 : 1 ≤ bn ∧ bn ≤ 16) (h3 : pn ≤ 4) (d : List Int) (hd : d.length = (bn * an) * pn) : Ev (fun k => spec_mirror.f k an bn pn d) ((an : Int), (bn : Int), (pn : Int), mirD an bn pn d) := by
 have sm := small h1.2 h2.2 h3
 unfold spec_mirror.f
 refine ev_now (copyImage_px _ _ _ d (by omega)) ?_
 have hlen := mirD_len h1.1 h2.1 hd
 let I : Nat → Nat → List Int → Prop := fun r c s => s.length = (bn * an) * pn ∧ ∀ x y : Nat, x < an → y < bn → (y < r ∨ (y = r ∧ x < c)) → nx pn s (y * an + (an - 1 - x)) = nx pn d (y * an + x)
 have inner : ∀ (r : Nat), r < bn → ∀ s : List Int, I r 0 s → ∃ s' : List Int, I (r + 1) 0 s' ∧
    ∀ res, Ev (fun k => spec_mirror.l0 k ((r + 1 : Nat) : Int) an bn pn d an bn pn s') res → Ev (fun k => spec_mirror.l1 k (r : Int) 0 an bn pn d an bn pn s) res := by
  intro r hr s hs
  obtain ⟨s', i4, i5⟩ := ev_run an (fun k c s => spec_mirror.l1 k (r : Int) (c : Int) an bn pn d an bn pn s) (fun s k => spec_mirror.l0 k ((r + 1 : Nat) : Int) an bn pn d an bn pn s) (fun c s => I r c s)
   (by
    intro c s hc ⟨hsl, i1⟩
    have hyl : (nx pn d (r * an + c)).length = pn := nx_length hd (lin_lt hc hr)
    have htx : an - 1 - c < an := by omega
    have hty : r < bn := by omega
    have hlin := lin_lt htx hty
    have hm : (r * an + (an - 1 - c) + 1) * pn ≤ (bn * an) * pn := Nat.mul_le_mul_right pn hlin
    rw [Nat.add_mul, Nat.one_mul] at hm
    refine ⟨laidOver s ((r * an + (an - 1 - c)) * pn) (nx pn d (r * an + c)), ⟨by rw [laidOver_length _ _ _ (by rw [hyl, hsl]; exact hm)]; exact hsl, ?_⟩, ?_⟩
    ·intro x y hx hy hdn
     have hxy : an - 1 - x < an := by omega
     rw [nx_laid hsl hyl hlin (lin_lt hxy (by omega))]
     by_cases q : x = c ∧ y = r
     ·obtain ⟨rfl, rfl⟩ := q
      rw [if_pos rfl]
     ·rw [if_neg (fun z => q (by have t := lin_ne hxy htx z; omega))]
      exact i1 x y hx hy (by omega)
    ·intro res hres
     clear hm hlin i1
     refine Ev.step (f := fun k => (spec_pixelAt.f an bn pn d (c : Int) (r : Int)).bind fun t => (spec_setPixel.f k an bn pn s ((an - 1 - c : Nat) : Int) ((r : Nat) : Int) t).bind fun u => spec_mirror.l1 k (r : Int) ((c + 1 : Nat) : Int) an bn pn d an bn pn u) (fun k => ?_) (ev_now (pixelAt_eq h1.2 h2.2 h3 hc hr d hd) (ev_bind (setPixel_ev (by omega) (by omega) h3 htx hty s _ hsl hyl) hres))
     simp only [spec_mirror.l1]
     rw [if_pos (by omega), w64 (x := (an : Int) - 1) (by omega) (by omega), w64 (x := (an : Int) - 1 - (c : Int)) (by omega) (by omega), show (an : Int) - 1 - (c : Int) = ((an - 1 - c : Nat) : Int) by omega, w64n c (by omega)])
   (by
    intro s _ res hres
    refine Ev.step (fun k => ?_) hres
    simp only [spec_mirror.l1]
    rw [if_neg (by omega), w64n r (by omega)])
   an 0 s (by omega) hs
  exact ⟨s', ⟨i4.1, fun x y hx hy hdn => i4.2 x y hx hy (by omega)⟩, i5⟩
 obtain ⟨s', i4, i5⟩ := ev_run bn (fun k r s => spec_mirror.l0 k (r : Int) an bn pn d an bn pn s) (fun s _ => some ((an : Int), (bn : Int), (pn : Int), s)) (fun r s => I r 0 s)
  (by
   intro r s hr hs
   obtain ⟨s', i1, i2⟩ := inner r hr s hs
   refine ⟨s', i1, fun res hres => Ev.step (fun k => ?_) (i2 res hres)⟩
   simp only [spec_mirror.l0]
   rw [if_pos (by omega)])
  (by
   intro s _ res hres
   refine Ev.step (fun k => ?_) hres
   simp only [spec_mirror.l0]
   rw [if_neg (by omega)])
  bn 0 (d) (by omega) ⟨by first | exact hd | simp, fun x y hx hy hdn => by omega⟩
 have q : s' = mirD an bn pn d := ext_img i4.1 (imgD_length hlen) (fun x y hx hy => by
  rw [show mirD an bn pn d = imgD (fun x y => nx pn d (y * an + (an - 1 - x))) an bn from rfl, nx_imgD hlen hx hy]
  have z := i4.2 (an - 1 - x) y (by omega) hy (by omega)
  rw [show an - 1 - (an - 1 - x) = x by omega] at z
  exact z)
 subst q
 exact i5 _ (Ev.now _)
def turnD (an bn pn : Nat) (d : List Int) : List Int := imgD (fun x y => nx pn d ((bn - 1 - x) * an + y)) bn an
theorem turnD_len {an bn pn : Nat} {d : List Int} (h1 : 1 ≤ an) (h2 : 1 ≤ bn) (hd : d.length = (bn * an) * pn) : ∀ x y, x < bn → y < an → (nx pn d ((bn - 1 - x) * an + y)).length = pn := fun x y hx hy => nx_length hd (lin_lt (by omega) (by omega))
theorem turn_ev {an bn pn : Nat} (h1 : 1 ≤ an ∧ an ≤ 16) (h2 : 1 ≤ bn ∧ bn ≤ 16) (h3 : pn ≤ 4) (d : List Int) (hd : d.length = (bn * an) * pn) : Ev (fun k => spec_turn.f k an bn pn d) ((bn : Int), (an : Int), (pn : Int), turnD an bn pn d) := by
 have sm := small h1.2 h2.2 h3
 unfold spec_turn.f
 refine ev_now (newImg_eq h2.2 h1.2 h3) ?_
 have hlen := turnD_len h1.1 h2.1 hd
 let I : Nat → Nat → List Int → Prop := fun r c s => s.length = (an * bn) * pn ∧ ∀ x y : Nat, x < an → y < bn → (y < r ∨ (y = r ∧ x < c)) → nx pn s (x * bn + (bn - 1 - y)) = nx pn d (y * an + x)
 have inner : ∀ (r : Nat), r < bn → ∀ s : List Int, I r 0 s → ∃ s' : List Int, I (r + 1) 0 s' ∧
    ∀ res, Ev (fun k => spec_turn.l0 k ((r + 1 : Nat) : Int) an bn pn d bn an pn s') res → Ev (fun k => spec_turn.l1 k (r : Int) 0 an bn pn d bn an pn s) res := by
  intro r hr s hs
  obtain ⟨s', i4, i5⟩ := ev_run an (fun k c s => spec_turn.l1 k (r : Int) (c : Int) an bn pn d bn an pn s) (fun s k => spec_turn.l0 k ((r + 1 : Nat) : Int) an bn pn d bn an pn s) (fun c s => I r c s)
   (by
    intro c s hc ⟨hsl, i1⟩
    have hyl : (nx pn d (r * an + c)).length = pn := nx_length hd (lin_lt hc hr)
    have htx : bn - 1 - r < bn := by omega
    have hty : c < an := by omega
    have hlin := lin_lt htx hty
    have hm : (c * bn + (bn - 1 - r) + 1) * pn ≤ (an * bn) * pn := Nat.mul_le_mul_right pn hlin
    rw [Nat.add_mul, Nat.one_mul] at hm
    refine ⟨laidOver s ((c * bn + (bn - 1 - r)) * pn) (nx pn d (r * an + c)), ⟨by rw [laidOver_length _ _ _ (by rw [hyl, hsl]; exact hm)]; exact hsl, ?_⟩, ?_⟩
    ·intro x y hx hy hdn
     have hxy : bn - 1 - y < bn := by omega
     rw [nx_laid hsl hyl hlin (lin_lt hxy (by omega))]
     by_cases q : x = c ∧ y = r
     ·obtain ⟨rfl, rfl⟩ := q
      rw [if_pos rfl]
     ·rw [if_neg (fun z => q (by have t := lin_ne hxy htx z; omega))]
      exact i1 x y hx hy (by omega)
    ·intro res hres
     clear hm hlin i1
     refine Ev.step (f := fun k => (spec_pixelAt.f an bn pn d (c : Int) (r : Int)).bind fun t => (spec_setPixel.f k bn an pn s ((bn - 1 - r : Nat) : Int) ((c : Nat) : Int) t).bind fun u => spec_turn.l1 k (r : Int) ((c + 1 : Nat) : Int) an bn pn d bn an pn u) (fun k => ?_) (ev_now (pixelAt_eq h1.2 h2.2 h3 hc hr d hd) (ev_bind (setPixel_ev (by omega) (by omega) h3 htx hty s _ hsl hyl) hres))
     simp only [spec_turn.l1]
     rw [if_pos (by omega), w64 (x := (bn : Int) - 1) (by omega) (by omega), w64 (x := (bn : Int) - 1 - (r : Int)) (by omega) (by omega), show (bn : Int) - 1 - (r : Int) = ((bn - 1 - r : Nat) : Int) by omega, w64n c (by omega)])
   (by
    intro s _ res hres
    refine Ev.step (fun k => ?_) hres
    simp only [spec_turn.l1]
    rw [if_neg (by omega), w64n r (by omega)])
   an 0 s (by omega) hs
  exact ⟨s', ⟨i4.1, fun x y hx hy hdn => i4.2 x y hx hy (by omega)⟩, i5⟩
 obtain ⟨s', i4, i5⟩ := ev_run bn (fun k r s => spec_turn.l0 k (r : Int) an bn pn d bn an pn s) (fun s _ => some ((bn : Int), (an : Int), (pn : Int), s)) (fun r s => I r 0 s)
  (by
   intro r s hr hs
   obtain ⟨s', i1, i2⟩ := inner r hr s hs
   refine ⟨s', i1, fun res hres => Ev.step (fun k => ?_) (i2 res hres)⟩
   simp only [spec_turn.l0]
   rw [if_pos (by omega)])
  (by
   intro s _ res hres
   refine Ev.step (fun k => ?_) hres
   simp only [spec_turn.l0]
   rw [if_neg (by omega)])
  bn 0 (List.replicate ((an * bn) * pn) 0) (by omega) ⟨by first | exact hd | simp, fun x y hx hy hdn => by omega⟩
 have q : s' = turnD an bn pn d := ext_img i4.1 (imgD_length hlen) (fun x y hx hy => by
  rw [show turnD an bn pn d = imgD (fun x y => nx pn d ((bn - 1 - x) * an + y)) bn an from rfl, nx_imgD hlen hx hy]
  have z := i4.2 y (bn - 1 - x) hy (by omega) (by omega)
  rw [show bn - 1 - (bn - 1 - x) = x by omega] at z
  exact z)
 subst q
 exact i5 _ (Ev.now _)
theorem set_map (f : Int → Int) (d : List Int) (i : Nat) (hi : i < d.length) : ((d.take i).map f ++ d.drop i).set i (f d[i]) = (d.take (i + 1)).map f ++ d.drop (i + 1) := by
 have h1 : ((d.take i).map f).length = i := by rw [List.length_map, List.length_take]; omega
 rw [List.set_append_right _ _ (by omega), h1, Nat.sub_self, List.drop_eq_getElem_cons hi, List.set_cons_zero, List.take_succ_eq_append_getElem hi, List.map_append, List.append_assoc]
 rfl
theorem invert_ev (a b p : Int) (d : List Int) (hv : validI a b p d = true) (hl : d.length ≤ 1000000) : Ev (fun k => spec_InvertImage.f k a b p d) (a, b, p, invD d) := by
 unfold spec_InvertImage.f
 have hv0 := spec_validImage_ev a b p d (by omega)
 rw [hv] at hv0
 refine ev_bind hv0 (ev_pos rfl (ev_now (copyImage_px a b p d hl) ?_))
 refine ev_up d.length (fun k i s => spec_InvertImage.l0 k (i : Int) a b p d a b p s) (fun i s => s = (d.take i).map (fun n => wrap64 (255 - n)) ++ d.drop i) (fun _ _ => (a, b, p, invD d))
  (by
   intro i s hi hinv
   right
   refine ⟨(d.take (i + 1)).map (fun n => wrap64 (255 - n)) ++ d.drop (i + 1), fun k => ?_, rfl, rfl⟩
   have hsl : s.length = d.length := by rw [hinv, List.length_append, List.length_map, List.length_take, List.length_drop]; omega
   simp only [spec_InvertImage.l0]
   rw [if_pos (by rw [hsl]; omega), if_pos (by omega), if_pos (by omega), rd_nat d i hi, w64n i (by omega), Int.toNat_natCast, hinv, set_map (fun n => wrap64 (255 - n)) d i hi])
  (by
   intro s hinv
   have hsl : s.length = d.length := by rw [hinv, List.length_append, List.length_map, List.length_take, List.length_drop]; omega
   refine Ev.step (f := fun _ => some (a, b, p, invD d)) (fun k => ?_) (Ev.now _)
   simp only [spec_InvertImage.l0]
   rw [if_neg (by rw [hsl]; omega), hinv, List.take_length, List.drop_length, List.append_nil]
   rfl)
  d.length 0 d (by omega) (by simp)
theorem validBox_on {a b p : Int} {d : List Int} (hs : 1 ≤ a ∧ a ≤ 16 ∧ 1 ≤ b ∧ b ≤ 16) (x y wd hg : Int) : spec_validBox.f a b p d x y wd hg = some (boxOn a b x y wd hg) := by
 unfold spec_validBox.f boxOn
 simp only [spec_inRangeI_eq, Option.bind_some]
 rw [w64 (x := a - 1) (by omega) (by omega), w64 (x := b - 1) (by omega) (by omega)]
 by_cases c1 : 0 ≤ x ∧ x ≤ a - 1
 ·rw [if_pos (by simpa using c1), w64 (x := a - x) (by omega) (by omega)]
  by_cases c2 : 0 ≤ y ∧ y ≤ b - 1
  ·rw [if_pos (by simpa using c2), w64 (x := b - y) (by omega) (by omega)]
   by_cases c3 : 1 ≤ wd ∧ wd ≤ a - x
   ·rw [if_pos (by simpa using c3)]
    congr 1; rw [Bool.eq_iff_iff]; simp; omega
   ·rw [if_neg (by simpa using c3), decide_eq_false (by omega)]
  ·rw [if_neg (by simpa using c2), decide_eq_false (by omega)]
 ·rw [if_neg (by simpa using c1), decide_eq_false (by omega)]
theorem fill_ev {wn hn pn : Nat} (h1 : 1 ≤ wn ∧ wn ≤ 16) (h2 : 1 ≤ hn ∧ hn ≤ 16) (h3 : 1 ≤ pn ∧ pn ≤ 4) (pix : List Int) (hp : pix.length = pn) (hb : pix.all byteI = true) :
  ∃ e : List Int, e.length = (hn * wn) * pn ∧ (∀ x y, x < wn → y < hn → nx pn e (y * wn + x) = pix) ∧ Ev (fun k => spec_FillImage.f k wn hn pix) ((wn : Int), (hn : Int), (pn : Int), e) := by
 have sm := small h1.2 h2.2 h3.2
 obtain ⟨s', i4, i5⟩ := ev_run ((hn * wn) * pn) (fun k i s => spec_FillImage.l0 k pix (i : Int) wn hn pn s) (fun s _ => some ((wn : Int), (hn : Int), (pn : Int), s)) (fun i s => s.length = (hn * wn) * pn ∧ ∀ q, q < i → s.getD q 0 = pix.getD (q % pn) 0)
  (by
   intro i s hi ⟨hsl, i1⟩
   have hmod : i % pn < pn := Nat.mod_lt _ (by omega)
   have htm : Int.tmod (i : Int) (pix.length : Int) = ((i % pn : Nat) : Int) := by rw [hp]; rfl
   refine ⟨s.set i (pix.getD (i % pn) 0), ⟨by rw [List.length_set]; exact hsl, fun q hq => ?_⟩, fun res hres => Ev.step (fun k => ?_) hres⟩
   ·by_cases e : q = i
    ·subst e
     rw [List.getD_eq_getElem?_getD, List.getElem?_set_self (by omega)]
     rfl
    ·rw [List.getD_eq_getElem?_getD, List.getElem?_set_ne (by omega), ← List.getD_eq_getElem?_getD]
     exact i1 q (by omega)
   ·simp only [spec_FillImage.l0]
    rw [htm, if_pos (by omega), if_neg (by omega), if_pos (by omega), if_pos (by omega), if_pos (by omega), w64n i (by omega), Int.toNat_natCast]
    rfl)
  (by
   intro s ⟨hsl, _⟩ res hres
   refine Ev.step (fun k => ?_) hres
   simp only [spec_FillImage.l0]
   rw [if_neg (by omega)])
  ((hn * wn) * pn) 0 (List.replicate ((hn * wn) * pn) 0) (by omega) ⟨by simp, fun q hq => by omega⟩
 refine ⟨s', i4.1, fun x y hx hy => ?_, ?_⟩
 ·have hl := lin_lt hx hy
  have hn1 : (nx pn s' (y * wn + x)).length = pn := nx_length i4.1 hl
  have hm : (y * wn + x + 1) * pn ≤ (hn * wn) * pn := Nat.mul_le_mul_right pn hl
  rw [Nat.add_mul, Nat.one_mul] at hm
  refine List.ext_getElem (by rw [hn1, hp]) (fun q hq1 hq2 => ?_)
  have z := i4.2 ((y * wn + x) * pn + q) (by omega)
  rw [Nat.mul_comm (y * wn + x) pn, Nat.mul_add_mod, Nat.mod_eq_of_lt (show q < pn by omega), Nat.mul_comm pn (y * wn + x)] at z
  have z1 : (nx pn s' (y * wn + x)).getD q 0 = pix.getD q 0 := by
   rw [← z]
   unfold nx
   rw [List.getD_eq_getElem?_getD, List.getElem?_take, if_pos (by omega), List.getElem?_drop, List.getD_eq_getElem?_getD]
  rw [List.getD_eq_getElem?_getD, List.getElem?_eq_getElem hq1, List.getD_eq_getElem?_getD, List.getElem?_eq_getElem hq2] at z1
  exact z1
 ·unfold spec_FillImage.f
  have hsh : shapeI wn hn (pix.length : Int) = true := (shapeI_iff _ _ _).2 (by omega)
  have hb0 := spec_allInI_ev pix (by omega)
  rw [hb] at hb0
  refine ev_now ((spec_validShape_eq wn hn (pix.length : Int)).trans (by rw [hsh])) (ev_pos rfl (ev_bind hb0 ?_))
  refine Ev.step (f := fun k => (spec_newImage.f wn hn (pix.length : Int)).bind fun t => spec_FillImage.l0 k pix 0 t.1 t.2.1 t.2.2.1 t.2.2.2) (fun k => ?_) (ev_now (by rw [hp]; exact newImg_eq h1.2 h2.2 h3.2) (i5 _ (Ev.now _)))
  simp only [spec_FillImage.j0, Bool.not_true]
  rw [if_neg (by simp)]
theorem spec_doStep_ev (a b p : Int) (d : List Int) (kind x y wd hg : Int) (pix : List Int) (hv : validI a b p d = true) (hpl : pix.length ≤ 1000000000) : Ev (fun k => spec_doStep.f k a b p d kind x y wd hg pix) (doStepV a b p d kind x y wd hg pix) := by
 have hs := ((validI_iff a b p d).1 hv).1
 have hs' : 1 ≤ a ∧ a ≤ 16 ∧ 1 ≤ b ∧ b ≤ 16 := by omega
 have hvb := fun x y wd hg => validBox_on (p := p) (d := d) hs' x y wd hg
 have hv1 := hv
 obtain ⟨an, bn, pn, ea, eb, ep, q1, q2, q3, q4, q5, q6, q7⟩ := nat_of hv
 have sm := small q2 q4 q6
 unfold spec_doStep.f doStepV
 by_cases k0 : kind = 0
 ·rw [if_pos k0]
  refine ev_pos k0 ?_
  subst ea eb ep
  rw [show imgD (mirPx an pn d) (an : Int).toNat (bn : Int).toNat = mirD an bn pn d from imgD_congr (fun x y hx hy => by
   simp only [Int.toNat_natCast] at hx hy
   unfold mirPx
   rw [show ((an : Int) - 1 - (x : Int)).toNat = an - 1 - x by omega, pxAt_nat q2 q4 q6 (by omega) hy])]
  exact ev_bind (mirror_ev ⟨q1, q2⟩ ⟨q3, q4⟩ q6 d q7) (Ev.now _)
 ·rw [if_neg k0]
  refine ev_neg k0 ?_
  by_cases k1 : kind = 1
  ·rw [if_pos k1]
   refine ev_pos k1 ?_
   subst ea eb ep
   rw [show imgD (turnPx an bn pn d) (bn : Int).toNat (an : Int).toNat = turnD an bn pn d from imgD_congr (fun x y hx hy => by
    simp only [Int.toNat_natCast] at hx hy
    unfold turnPx
    rw [show ((bn : Int) - 1 - (x : Int)).toNat = bn - 1 - x by omega, pxAt_nat q2 q4 q6 hy (by omega)])]
   exact ev_bind (turn_ev ⟨q1, q2⟩ ⟨q3, q4⟩ q6 d q7) (Ev.now _)
  ·rw [if_neg k1]
   refine ev_neg k1 ?_
   by_cases k2 : kind = 2
   ·rw [if_pos k2]
    exact ev_pos k2 (ev_bind (invert_ev a b p d hv (by omega)) (Ev.now _))
   ·rw [if_neg k2]
    refine ev_neg k2 ?_
    by_cases k3 : kind = 3
    ·rw [if_pos k3]
     refine ev_pos k3 ?_
     unfold spec_CropImage.f
     have hv0 := spec_validImage_ev a b p d (by omega)
     rw [hv] at hv0
     by_cases c : boxOn a b x y wd hg = true
     ·rw [if_pos c]
      obtain ⟨b1, b2, b3, b4, b5, b6, b7, b8⟩ := (boxOn_iff _ _ _ _ _ _).1 c
      obtain ⟨X, eX⟩ := Int.eq_ofNat_of_zero_le b1
      obtain ⟨Y, eY⟩ := Int.eq_ofNat_of_zero_le b3
      obtain ⟨wn, ew⟩ := Int.eq_ofNat_of_zero_le (show 0 ≤ wd by omega)
      obtain ⟨hn, eh⟩ := Int.eq_ofNat_of_zero_le (show 0 ≤ hg by omega)
      subst ea eb ep eX eY ew eh
      rw [show imgD (cropPx an pn d (X : Int).toNat (Y : Int).toNat) (wn : Int).toNat (hn : Int).toNat = cropD an pn d X Y wn hn from imgD_congr (fun x y hx hy => by
       simp only [Int.toNat_natCast] at hx hy ⊢
       unfold cropPx
       rw [pxAt_nat q2 q4 q6 (by omega) (by omega)])]
      exact ev_bind (ev_bind hv0 (ev_pos rfl (ev_now (hvb _ _ _ _) (ev_pos c (ev_bind (crop_ev q2 q4 q6 (by omega) (by omega) d q7) (Ev.now _)))))) (Ev.now _)
     ·rw [if_neg c]
      exact ev_bind (ev_bind hv0 (ev_pos rfl (ev_now (hvb _ _ _ _) (ev_neg c (Ev.now _))))) (Ev.now _)
    ·rw [if_neg k3]
     refine ev_neg k3 ?_
     by_cases k4 : kind = 4
     ·rw [if_pos k4]
      refine ev_pos k4 ?_
      have stop : ∀ q, ¬ (boxOn a b x y wd hg = true ∧ (pix.length : Int) = p ∧ pix.all byteI = true) → q = true → Ev (fun k => spec_doStep.j0 k q a b p d kind x y wd hg pix) (if boxOn a b x y wd hg = true ∧ (pix.length : Int) = p ∧ pix.all byteI = true then (a, b, p, imgD (fillPx a p d x.toNat y.toNat wd.toNat hg.toNat pix) a.toNat b.toNat, true) else (0, 0, 0, [], false)) := by
       intro q hn hq
       subst hq
       rw [if_neg hn]
       refine Ev.step (f := fun _ => some (0, 0, 0, [], false)) (fun k => ?_) (Ev.now _)
       simp only [spec_doStep.j0]
       rw [if_pos trivial]
      refine ev_now (hvb _ _ _ _) ?_
      by_cases c : boxOn a b x y wd hg = true
      ·refine ev_pos c ?_
       by_cases c2 : (pix.length : Int) = p
       ·refine ev_pos c2 (ev_bind (spec_allInI_ev pix (by omega)) ?_)
        by_cases c3 : pix.all byteI = true
        ·rw [c3, if_pos ⟨c, c2, rfl⟩]
         obtain ⟨b1, b2, b3, b4, b5, b6, b7, b8⟩ := (boxOn_iff _ _ _ _ _ _).1 c
         obtain ⟨X, eX⟩ := Int.eq_ofNat_of_zero_le b1
         obtain ⟨Y, eY⟩ := Int.eq_ofNat_of_zero_le b3
         obtain ⟨wn, ew⟩ := Int.eq_ofNat_of_zero_le (show 0 ≤ wd by omega)
         obtain ⟨hn, eh⟩ := Int.eq_ofNat_of_zero_le (show 0 ≤ hg by omega)
         subst ea eb ep eX eY ew eh
         have c2 := Int.ofNat.inj c2
         obtain ⟨e, e1, e2, e3⟩ := fill_ev (wn := wn) (hn := hn) ⟨by omega, by omega⟩ ⟨by omega, by omega⟩ ⟨q5, q6⟩ pix c2 c3
         rw [show imgD (fillPx an pn d (X : Int).toNat (Y : Int).toNat (wn : Int).toNat (hn : Int).toNat pix) (an : Int).toNat (bn : Int).toNat = imgD (pastePx an pn d X Y wn hn e) an bn from imgD_congr (fun x y hx hy => by
          simp only [Int.toNat_natCast] at hx hy ⊢
          unfold fillPx inBox pastePx
          by_cases z : X ≤ x ∧ x < X + wn ∧ Y ≤ y ∧ y < Y + hn
          ·rw [if_pos (decide_eq_true z), if_pos (by omega), e2 _ _ (by omega) (by omega)]
          ·rw [if_neg (by simpa using z), if_neg (by omega), pxAt_nat q2 q4 q6 hx hy])]
         refine Ev.step (f := fun k => (spec_copyImage.f an bn pn d).bind fun t => (spec_FillImage.f k wn hn pix).bind fun u => (spec_paste.f k t.1 t.2.1 t.2.2.1 t.2.2.2 X Y u.1 u.2.1 u.2.2.1 u.2.2.2).bind fun v => some (t.1, t.2.1, t.2.2.1, v, true)) (fun k => ?_) (ev_now (copyImage_px _ _ _ d (by omega)) (ev_bind e3 (ev_bind (paste_ev ⟨q1, q2⟩ ⟨q3, q4⟩ q6 (by omega) (by omega) ⟨by omega, by omega⟩ ⟨by omega, by omega⟩ d e q7 e1) (Ev.now _))))
         simp only [spec_doStep.j0, Bool.not_true]
         rw [if_neg (by simp)]
        ·rw [Bool.eq_false_iff.2 c3]
         have z := stop true (fun h => c3 h.2.2) rfl
         rw [Bool.eq_false_iff.2 c3] at z
         exact z
       ·exact ev_neg c2 (stop _ (fun h => c2 h.2.1) rfl)
      ·exact ev_neg c (stop _ (fun h => c h.1) rfl)
     ·rw [if_neg k4]
      exact ev_neg k4 (Ev.now _)
def doneV (a b p : Int) (d : List Int) (kind x y wd hg : Int) (pix : List Int) : Int × Int × Int × List Int × Bool := if validI a b p d = true then doStepV a b p d kind x y wd hg pix else (0, 0, 0, [], false)

/- Steps, one after the other: what the program and the reference make of an image. -/

def AllBy (l : List Int) : Prop := ∀ n ∈ l, 0 ≤ n ∧ n ≤ 255
theorem allBy_nx {d : List Int} (h : AllBy d) (n i : Nat) : AllBy (nx n d i) := fun x hx => h x (List.mem_of_mem_drop (List.mem_of_mem_take hx))
theorem valid_img {an bn pn : Nat} {px : Nat → Nat → List Int} (h1 : 1 ≤ an ∧ an ≤ 16) (h2 : 1 ≤ bn ∧ bn ≤ 16) (h3 : 1 ≤ pn ∧ pn ≤ 4) (hl : ∀ x y, x < an → y < bn → (px x y).length = pn) (hb : ∀ x y, x < an → y < bn → AllBy (px x y)) : validI an bn pn (imgD px an bn) = true := by
 refine (validI_iff _ _ _ _).2 ⟨by omega, by rw [imgD_length hl, Nat.mul_comm bn an]; push_cast; rfl, fun n hn => ?_⟩
 unfold imgD rowD at hn
 obtain ⟨y, hy, hn⟩ := List.mem_flatMap.1 hn
 obtain ⟨x, hx, hn⟩ := List.mem_flatMap.1 hn
 exact hb x y (List.mem_range.1 hx) (List.mem_range.1 hy) n hn
theorem done_valid {a b p : Int} {d : List Int} {kind x y wd hg : Int} {pix : List Int} (h : (doneV a b p d kind x y wd hg pix).2.2.2.2 = true) : validI a b p d = true ∧ validI (doneV a b p d kind x y wd hg pix).1 (doneV a b p d kind x y wd hg pix).2.1 (doneV a b p d kind x y wd hg pix).2.2.1 (doneV a b p d kind x y wd hg pix).2.2.2.1 = true := by
 unfold doneV at h ⊢
 by_cases c : validI a b p d = true
 ·rw [if_pos c] at h ⊢
  refine ⟨c, ?_⟩
  have hb := ((validI_iff _ _ _ _).1 c).2.2
  obtain ⟨an, bn, pn, ea, eb, ep, q1, q2, q3, q4, q5, q6, q7⟩ := nat_of c
  subst ea eb ep
  unfold doStepV at h ⊢
  by_cases k0 : kind = 0
  ·rw [if_pos k0]
   refine valid_img ⟨q1, q2⟩ ⟨q3, q4⟩ ⟨q5, q6⟩ (fun i j hi hj => ?_) (fun i j hi hj => ?_)
   all_goals
    unfold mirPx
    try simp only [Int.toNat_natCast] at hi hj
    rw [pxAt_nat q2 q4 q6 (by omega) hj]
   ·exact nx_length q7 (lin_lt (by omega) hj)
   ·exact allBy_nx hb _ _
  ·rw [if_neg k0] at h ⊢
   by_cases k1 : kind = 1
   ·rw [if_pos k1]
    refine valid_img ⟨q3, q4⟩ ⟨q1, q2⟩ ⟨q5, q6⟩ (fun i j hi hj => ?_) (fun i j hi hj => ?_)
    all_goals
     unfold turnPx
     try simp only [Int.toNat_natCast] at hi hj
     rw [pxAt_nat q2 q4 q6 hj (by omega)]
    ·exact nx_length q7 (lin_lt hj (by omega))
    ·exact allBy_nx hb _ _
   ·rw [if_neg k1] at h ⊢
    by_cases k2 : kind = 2
    ·rw [if_pos k2]
     refine (validI_iff _ _ _ _).2 ⟨((validI_iff _ _ _ _).1 c).1, by show ((invD d).length : Int) = _; unfold invD; rw [List.length_map]; exact ((validI_iff _ _ _ _).1 c).2.1, fun n hn => ?_⟩
     have hn : n ∈ invD d := hn
     unfold invD at hn
     obtain ⟨m, hm, rfl⟩ := List.mem_map.1 hn
     have := hb m hm
     rw [w64 (by omega) (by omega)]
     omega
    ·rw [if_neg k2] at h ⊢
     by_cases k3 : kind = 3
     ·rw [if_pos k3] at h ⊢
      by_cases cb : boxOn an bn x y wd hg = true
      ·rw [if_pos cb]
       obtain ⟨b1, b2, b3, b4, b5, b6, b7, b8⟩ := (boxOn_iff _ _ _ _ _ _).1 cb
       obtain ⟨X, eX⟩ := Int.eq_ofNat_of_zero_le b1
       obtain ⟨Y, eY⟩ := Int.eq_ofNat_of_zero_le b3
       obtain ⟨wn, ew⟩ := Int.eq_ofNat_of_zero_le (show 0 ≤ wd by omega)
       obtain ⟨hn, eh⟩ := Int.eq_ofNat_of_zero_le (show 0 ≤ hg by omega)
       subst eX eY ew eh
       refine valid_img (an := wn) (bn := hn) ⟨by omega, by omega⟩ ⟨by omega, by omega⟩ ⟨q5, q6⟩ (fun i j hi hj => ?_) (fun i j hi hj => ?_)
       all_goals
        unfold cropPx
        try simp only [Int.toNat_natCast] at hi hj ⊢
        rw [pxAt_nat q2 q4 q6 (by omega) (by omega)]
       ·exact nx_length q7 (lin_lt (by omega) (by omega))
       ·exact allBy_nx hb _ _
      ·rw [if_neg cb] at h; cases h
     ·rw [if_neg k3] at h ⊢
      by_cases k4 : kind = 4
      ·rw [if_pos k4] at h ⊢
       by_cases cb : boxOn an bn x y wd hg = true ∧ (pix.length : Int) = pn ∧ pix.all byteI = true
       ·rw [if_pos cb]
        obtain ⟨cb, cl, ca⟩ := cb
        have cl := Int.ofNat.inj cl
        refine valid_img ⟨q1, q2⟩ ⟨q3, q4⟩ ⟨q5, q6⟩ (fun i j hi hj => ?_) (fun i j hi hj => ?_)
        all_goals
         unfold fillPx
         try simp only [Int.toNat_natCast] at hi hj
         split
        ·exact cl
        ·rw [pxAt_nat q2 q4 q6 hi hj]
         exact nx_length q7 (lin_lt hi hj)
        ·exact fun n hn => (byteI_iff n).1 (List.all_eq_true.1 ca n hn)
        ·rw [pxAt_nat q2 q4 q6 hi hj]
         exact allBy_nx hb _ _
       ·rw [if_neg cb] at h; cases h
      ·rw [if_neg k4] at h; cases h
 ·rw [if_neg c] at h; cases h
abbrev Step := S43
def stepV (a b p : Int) (d : List Int) (s : Step) : Int × Int × Int × List Int × Bool := doStepV a b p d s.f0 s.f1.f0 s.f1.f1 s.f1.f2 s.f1.f3 s.f2
def runV : Int → Int → Int → List Int → List Step → Int → Int × Int × Int × List Int × Int
 | a, b, p, d, [], n => (a, b, p, d, n)
 | a, b, p, d, s :: l, n => if (stepV a b p d s).2.2.2.2 = true then runV (stepV a b p d s).1 (stepV a b p d s).2.1 (stepV a b p d s).2.2.1 (stepV a b p d s).2.2.2.1 l (n + 1) else (a, b, p, d, n)
def runsV (a b p : Int) (d : List Int) (l : List Step) : Int × Int × Int × List Int × Int := if validI a b p d = true ∧ l.length ≤ 12 then runV a b p d l 0 else (0, 0, 0, [], -1)
theorem done_step {a b p : Int} {d : List Int} (hv : validI a b p d = true) (s : Step) : doneV a b p d s.f0 s.f1.f0 s.f1.f1 s.f1.f2 s.f1.f3 s.f2 = stepV a b p d s := by unfold doneV stepV; rw [if_pos hv]
theorem step_valid {a b p : Int} {d : List Int} {s : Step} (hv : validI a b p d = true) (h : (stepV a b p d s).2.2.2.2 = true) : validI (stepV a b p d s).1 (stepV a b p d s).2.1 (stepV a b p d s).2.2.1 (stepV a b p d s).2.2.2.1 = true := by
 rw [← done_step hv] at h ⊢
 exact (done_valid h).2
theorem impl_step {a b p : Int} {d : List Int} (hv : validI a b p d = true) (s : Step) : impl_doStep.f a b p d s.f0 s.f1.f0 s.f1.f1 s.f1.f2 s.f1.f3 s.f2 = some (stepV a b p d s) := by unfold impl_doStep.f stepV; rw [if_pos hv]
theorem spec_step {a b p : Int} {d : List Int} (hv : validI a b p d = true) (s : Step) (hl : s.f2.length ≤ 1000000000) : Ev (fun k => spec_doStep.f k a b p d s.f0 s.f1.f0 s.f1.f1 s.f1.f2 s.f1.f3 s.f2) (stepV a b p d s) := spec_doStep_ev _ _ _ _ _ _ _ _ _ _ hv hl
theorem rdS_nat (l : List Step) (i : Nat) (h : i < l.length) : rd_T43 l (i : Int) = l[i] := by simp [rd_T43, h]
theorem drop_at (l : List Step) (i : Nat) (h : i < l.length) : l.drop i = l[i] :: l.drop (i + 1) := List.drop_eq_getElem_cons h
theorem valid_len {a b p : Int} {d : List Int} (hv : validI a b p d = true) : d.length ≤ 1024 := by
 obtain ⟨an, bn, pn, _, _, _, q1, q2, q3, q4, q5, q6, q7⟩ := nat_of hv
 rw [q7]
 exact Nat.mul_le_mul (Nat.mul_le_mul q4 q2) q6
theorem impl_copyImage_px (a b p : Int) (d : List Int) (hl : d.length ≤ 1000000) : impl_copyImage.f a b p d = some (a, b, p, d) := by
 unfold impl_copyImage.f
 simp only [Option.bind_some]
 rw [if_pos (by simp; omega)]
 simp
theorem specRun_loop (l : List Step) (hs : ∀ s ∈ l, s.f2.length ≤ 1000000000) (hl : l.length ≤ 1000000000) : ∀ (n i : Nat) (a b p : Int) (d : List Int), i + n = l.length → validI a b p d = true →
  Ev (fun k => spec_RunSteps.l0 k l (i : Int) a b p d) (runV a b p d (l.drop i) i)
 | 0, i, a, b, p, d, hi, hv => by
  rw [List.drop_of_length_le (by omega)]
  refine Ev.step (f := fun _ => some (a, b, p, d, (l.length : Int))) (fun k => by simp only [spec_RunSteps.l0]; rw [if_neg (by omega)]) (ev_val (Ev.now _) ?_)
  unfold runV
  rw [show i = l.length by omega]
 | n + 1, i, a, b, p, d, hi, hv => by
  have hlt : i < l.length := by omega
  have hS := spec_step hv l[i] (hs _ (List.getElem_mem hlt))
  rw [drop_at l i hlt, runV]
  by_cases c : (stepV a b p d l[i]).2.2.2.2 = true
  ·rw [if_pos c]
   have ih := specRun_loop l hs hl n (i + 1) _ _ _ _ (by omega) (step_valid hv c)
   refine Ev.step (f := fun k => (spec_doStep.f k a b p d l[i].f0 l[i].f1.f0 l[i].f1.f1 l[i].f1.f2 l[i].f1.f3 l[i].f2).bind fun t => if t.2.2.2.2 = true then spec_RunSteps.l0 k l ((i + 1 : Nat) : Int) t.1 t.2.1 t.2.2.1 t.2.2.2.1 else some (a, b, p, d, (i : Int))) (fun k => ?_) (ev_bind hS (ev_pos c ih))
   simp only [spec_RunSteps.l0]
   rw [if_pos (by omega), if_pos (by omega), rdS_nat l i hlt, w64n i (by omega)]
  ·rw [if_neg c]
   refine Ev.step (f := fun k => (spec_doStep.f k a b p d l[i].f0 l[i].f1.f0 l[i].f1.f1 l[i].f1.f2 l[i].f1.f3 l[i].f2).bind fun t => if t.2.2.2.2 = true then spec_RunSteps.l0 k l ((i + 1 : Nat) : Int) t.1 t.2.1 t.2.2.1 t.2.2.2.1 else some (a, b, p, d, (i : Int))) (fun k => ?_) (ev_bind hS (ev_neg c (Ev.now _)))
   simp only [spec_RunSteps.l0]
   rw [if_pos (by omega), if_pos (by omega), rdS_nat l i hlt, w64n i (by omega)]
theorem spec_RunSteps_ev (a b p : Int) (d : List Int) (l : List Step) (hd : d.length ≤ 2000000) (hs : ∀ s ∈ l, s.f2.length ≤ 1000000000) : Ev (fun k => spec_RunSteps.f k a b p d l) (runsV a b p d l) := by
 unfold spec_RunSteps.f runsV
 refine ev_bind (spec_validImage_ev a b p d (by omega)) ?_
 by_cases c : validI a b p d = true
 ·refine ev_pos c ?_
  by_cases c2 : l.length ≤ 12
  ·rw [if_pos ⟨c, c2⟩]
   have h := specRun_loop l hs (by omega) l.length 0 a b p d (by omega) c
   rw [List.drop_zero] at h
   refine Ev.step (f := fun k => (spec_copyImage.f a b p d).bind fun t => spec_RunSteps.l0 k l 0 t.1 t.2.1 t.2.2.1 t.2.2.2) (fun k => ?_) (ev_now (copyImage_px a b p d (by have := valid_len c; omega)) h)
   simp only [spec_RunSteps.j0]
   rw [if_neg (by simp; omega)]
  ·rw [if_neg (fun h => c2 h.2)]
   refine Ev.step (f := fun _ => some (0, 0, 0, [], -1)) (fun k => ?_) (Ev.now _)
   simp only [spec_RunSteps.j0]
   rw [if_pos (by simp; omega)]
 ·rw [if_neg (fun h => c h.1)]
  refine ev_neg c (Ev.step (f := fun _ => some (0, 0, 0, [], -1)) (fun k => ?_) (Ev.now _))
  simp only [spec_RunSteps.j0]
  rw [if_pos trivial]
theorem implRun_loop (l : List Step) (hl : l.length ≤ 1000000000) : ∀ (n i : Nat) (a b p : Int) (d : List Int), i + n = l.length → validI a b p d = true →
  Ev (fun k => impl_RunSteps.l0 k l l (l.length : Int) (i : Int) a b p d) (runV a b p d (l.drop i) i)
 | 0, i, a, b, p, d, hi, hv => by
  rw [List.drop_of_length_le (by omega)]
  refine Ev.step (f := fun _ => some (a, b, p, d, (l.length : Int))) (fun k => by simp only [impl_RunSteps.l0]; rw [if_neg (by omega)]) (ev_val (Ev.now _) ?_)
  unfold runV
  rw [show i = l.length by omega]
 | n + 1, i, a, b, p, d, hi, hv => by
  have hlt : i < l.length := by omega
  have hS := impl_step hv l[i]
  rw [drop_at l i hlt, runV]
  by_cases c : (stepV a b p d l[i]).2.2.2.2 = true
  ·rw [if_pos c]
   have ih := implRun_loop l hl n (i + 1) _ _ _ _ (by omega) (step_valid hv c)
   refine Ev.step (f := fun k => (impl_doStep.f a b p d l[i].f0 l[i].f1.f0 l[i].f1.f1 l[i].f1.f2 l[i].f1.f3 l[i].f2).bind fun t => if t.2.2.2.2 = true then impl_RunSteps.l0 k l l (l.length : Int) ((i + 1 : Nat) : Int) t.1 t.2.1 t.2.2.1 t.2.2.2.1 else some (a, b, p, d, (i : Int))) (fun k => ?_) (ev_now hS (ev_pos c ih))
   simp only [impl_RunSteps.l0]
   rw [if_pos (by omega), if_pos (by omega), if_pos (by omega), rdS_nat l i hlt, w64n i (by omega)]
  ·rw [if_neg c]
   refine Ev.step (f := fun k => (impl_doStep.f a b p d l[i].f0 l[i].f1.f0 l[i].f1.f1 l[i].f1.f2 l[i].f1.f3 l[i].f2).bind fun t => if t.2.2.2.2 = true then impl_RunSteps.l0 k l l (l.length : Int) ((i + 1 : Nat) : Int) t.1 t.2.1 t.2.2.1 t.2.2.2.1 else some (a, b, p, d, (i : Int))) (fun k => ?_) (ev_now hS (ev_neg c (Ev.now _)))
   simp only [impl_RunSteps.l0]
   rw [if_pos (by omega), if_pos (by omega), if_pos (by omega), rdS_nat l i hlt, w64n i (by omega)]
theorem impl_RunSteps_ev (a b p : Int) (d : List Int) (l : List Step) : Ev (fun k => impl_RunSteps.f k a b p d l) (runsV a b p d l) := by
 unfold impl_RunSteps.f runsV
 refine ev_now (impl_isImage_eq a b p d) ?_
 by_cases c : validI a b p d = true
 ·refine ev_pos c ?_
  by_cases c2 : l.length ≤ 12
  ·rw [if_pos ⟨c, c2⟩]
   have h := implRun_loop l (by omega) l.length 0 a b p d (by omega) c
   rw [List.drop_zero] at h
   refine Ev.step (f := fun k => (impl_copyImage.f a b p d).bind fun t => impl_RunSteps.l0 k l l (l.length : Int) 0 t.1 t.2.1 t.2.2.1 t.2.2.2) (fun k => ?_) (ev_now (impl_copyImage_px a b p d (by have := valid_len c; omega)) h)
   simp only [impl_RunSteps.j0]
   rw [if_neg (by simp; omega)]
  ·rw [if_neg (fun h => c2 h.2)]
   refine Ev.step (f := fun _ => some (0, 0, 0, [], -1)) (fun k => ?_) (Ev.now _)
   simp only [impl_RunSteps.j0]
   rw [if_pos (by simp; omega)]
 ·rw [if_neg (fun h => c h.1)]
  refine ev_neg c (Ev.step (f := fun _ => some (0, 0, 0, [], -1)) (fun k => ?_) (Ev.now _))
  simp only [impl_RunSteps.j0]
  rw [if_pos trivial]

/- Steps that cancel each other do nothing to an image. -/

theorem runV_valid : ∀ (l : List Step) (a b p : Int) (d : List Int) (n : Int), validI a b p d = true → validI (runV a b p d l n).1 (runV a b p d l n).2.1 (runV a b p d l n).2.2.1 (runV a b p d l n).2.2.2.1 = true
 | [], a, b, p, d, n, hv => by unfold runV; exact hv
 | s :: l, a, b, p, d, n, hv => by
  unfold runV
  split
  ·rename_i c
   exact runV_valid l _ _ _ _ _ (step_valid hv c)
  ·exact hv
def runO : Int → Int → Int → List Int → List Step → Option (Int × Int × Int × List Int)
 | a, b, p, d, [] => some (a, b, p, d)
 | a, b, p, d, s :: l => if (stepV a b p d s).2.2.2.2 = true then runO (stepV a b p d s).1 (stepV a b p d s).2.1 (stepV a b p d s).2.2.1 (stepV a b p d s).2.2.2.1 l else none
theorem runO_full : ∀ (l : List Step) (a b p : Int) (d : List Int) (n : Int), (runV a b p d l n).2.2.2.2 = n + (l.length : Int) → runO a b p d l = some ((runV a b p d l n).1, (runV a b p d l n).2.1, (runV a b p d l n).2.2.1, (runV a b p d l n).2.2.2.1)
 | [], a, b, p, d, n, h => by unfold runV runO; rfl
 | s :: l, a, b, p, d, n, h => by
  unfold runV at h ⊢
  unfold runO
  by_cases c : (stepV a b p d s).2.2.2.2 = true
  ·rw [if_pos c] at h ⊢
   rw [if_pos c]
   exact runO_full l _ _ _ _ (n + 1) (by rw [h, List.length_cons]; omega)
  ·rw [if_neg c] at h
   have h : n = n + ((l.length + 1 : Nat) : Int) := h
   omega
theorem runV_of : ∀ (l : List Step) (a b p : Int) (d : List Int) (n : Int) {r0 r1 r2 : Int} {r3 : List Int}, runO a b p d l = some (r0, r1, r2, r3) → runV a b p d l n = (r0, r1, r2, r3, n + (l.length : Int))
 | [], a, b, p, d, n, r0, r1, r2, r3, h => by
  unfold runO at h
  unfold runV
  obtain ⟨rfl, rfl, rfl, rfl⟩ : a = r0 ∧ b = r1 ∧ p = r2 ∧ d = r3 := by simpa using h
  simp
 | s :: l, a, b, p, d, n, r0, r1, r2, r3, h => by
  unfold runO at h
  unfold runV
  by_cases c : (stepV a b p d s).2.2.2.2 = true
  ·rw [if_pos c] at h ⊢
   rw [runV_of l _ _ _ _ (n + 1) h, List.length_cons]
   simp only [Prod.mk.injEq, true_and]
   omega
  ·rw [if_neg c] at h; cases h
theorem runO_append : ∀ (l m : List Step) (a b p : Int) (d : List Int), runO a b p d (l ++ m) = (runO a b p d l).bind fun t => runO t.1 t.2.1 t.2.2.1 t.2.2.2 m
 | [], m, a, b, p, d => by simp [runO]
 | s :: l, m, a, b, p, d => by
  rw [List.cons_append, runO, runO]
  by_cases c : (stepV a b p d s).2.2.2.2 = true
  ·rw [if_pos c, if_pos c]
   exact runO_append l m _ _ _ _
  ·rw [if_neg c, if_neg c]; rfl
theorem runO_valid : ∀ (l : List Step) (a b p : Int) (d : List Int) {t : Int × Int × Int × List Int}, validI a b p d = true → runO a b p d l = some t → validI t.1 t.2.1 t.2.2.1 t.2.2.2 = true
 | [], a, b, p, d, t, hv, h => by
  unfold runO at h
  obtain rfl := Option.some.inj h
  exact hv
 | s :: l, a, b, p, d, t, hv, h => by
  unfold runO at h
  by_cases c : (stepV a b p d s).2.2.2.2 = true
  ·rw [if_pos c] at h
   exact runO_valid l _ _ _ _ (step_valid hv c) h
  ·rw [if_neg c] at h; cases h
theorem mir_nat {an bn pn : Nat} (q2 : an ≤ 16) (q4 : bn ≤ 16) (q6 : pn ≤ 4) (d : List Int) : imgD (mirPx an pn d) (an : Int).toNat (bn : Int).toNat = mirD an bn pn d := imgD_congr (fun x y hx hy => by
 simp only [Int.toNat_natCast] at hx hy
 unfold mirPx
 rw [show ((an : Int) - 1 - (x : Int)).toNat = an - 1 - x by omega, pxAt_nat q2 q4 q6 (by omega) hy])
theorem turn_nat {an bn pn : Nat} (q2 : an ≤ 16) (q4 : bn ≤ 16) (q6 : pn ≤ 4) (d : List Int) : imgD (turnPx an bn pn d) (bn : Int).toNat (an : Int).toNat = turnD an bn pn d := imgD_congr (fun x y hx hy => by
 simp only [Int.toNat_natCast] at hx hy
 unfold turnPx
 rw [show ((bn : Int) - 1 - (x : Int)).toNat = bn - 1 - x by omega, pxAt_nat q2 q4 q6 hy (by omega)])
theorem mir_twice {an bn pn : Nat} {d : List Int} (q1 : 1 ≤ an) (q3 : 1 ≤ bn) (hd : d.length = (bn * an) * pn) : mirD an bn pn (mirD an bn pn d) = d := by
 have h1 := mirD_len q1 q3 hd
 have e1 : (mirD an bn pn d).length = (bn * an) * pn := imgD_length h1
 have h2 := mirD_len q1 q3 e1
 refine ext_img (imgD_length h2) hd (fun x y hx hy => ?_)
 rw [show mirD an bn pn (mirD an bn pn d) = imgD (fun x y => nx pn (mirD an bn pn d) (y * an + (an - 1 - x))) an bn from rfl, nx_imgD h2 hx hy, show mirD an bn pn d = imgD (fun x y => nx pn d (y * an + (an - 1 - x))) an bn from rfl, nx_imgD h1 (show an - 1 - x < an by omega) hy, show an - 1 - (an - 1 - x) = x by omega]
theorem turnD_length {an bn pn : Nat} {d : List Int} (q1 : 1 ≤ an) (q3 : 1 ≤ bn) (hd : d.length = (bn * an) * pn) : (turnD an bn pn d).length = (an * bn) * pn := imgD_length (turnD_len q1 q3 hd)
theorem turn_two {an bn pn : Nat} {d : List Int} (q1 : 1 ≤ an) (q3 : 1 ≤ bn) (hd : d.length = (bn * an) * pn) {x y : Nat} (hx : x < an) (hy : y < bn) : nx pn (turnD bn an pn (turnD an bn pn d)) (y * an + x) = nx pn d ((bn - 1 - y) * an + (an - 1 - x)) := by
 have h1 := turnD_len q1 q3 hd
 have h2 := turnD_len q3 q1 (turnD_length q1 q3 hd)
 rw [show turnD bn an pn (turnD an bn pn d) = imgD (fun x y => nx pn (turnD an bn pn d) ((an - 1 - x) * bn + y)) an bn from rfl, nx_imgD h2 hx hy, show turnD an bn pn d = imgD (fun x y => nx pn d ((bn - 1 - x) * an + y)) bn an from rfl, nx_imgD h1 hy (show an - 1 - x < an by omega)]
theorem turn_four {an bn pn : Nat} {d : List Int} (q1 : 1 ≤ an) (q3 : 1 ≤ bn) (hd : d.length = (bn * an) * pn) : turnD bn an pn (turnD an bn pn (turnD bn an pn (turnD an bn pn d))) = d := by
 have e1 := turnD_length q1 q3 hd
 have e2 := turnD_length q3 q1 e1
 have e3 := turnD_length q1 q3 e2
 have e4 := turnD_length q3 q1 e3
 refine ext_img e4 hd (fun x y hx hy => ?_)
 rw [turn_two q1 q3 e2 hx hy, turn_two q1 q3 hd (show an - 1 - x < an by omega) (show bn - 1 - y < bn by omega), show an - 1 - (an - 1 - x) = x by omega, show bn - 1 - (bn - 1 - y) = y by omega]
theorem inv_twice {d : List Int} (h : ∀ n ∈ d, 0 ≤ n ∧ n ≤ 255) : invD (invD d) = d := by
 unfold invD
 rw [List.map_map]
 refine (List.map_congr_left (fun n hn => ?_)).trans (List.map_id d)
 have := h n hn
 show wrap64 (255 - wrap64 (255 - n)) = n
 rw [w64 (x := 255 - n) (by omega) (by omega), w64 (by omega) (by omega)]
 omega
theorem step_mir (an bn pn : Nat) (q2 : an ≤ 16) (q4 : bn ≤ 16) (q6 : pn ≤ 4) (d : List Int) (s : Step) (h : s.f0 = 0) : stepV an bn pn d s = ((an : Int), (bn : Int), (pn : Int), mirD an bn pn d, true) := by
 unfold stepV doStepV
 rw [if_pos h, mir_nat q2 q4 q6]
theorem step_turn (an bn pn : Nat) (q2 : an ≤ 16) (q4 : bn ≤ 16) (q6 : pn ≤ 4) (d : List Int) (s : Step) (h : s.f0 = 1) : stepV an bn pn d s = ((bn : Int), (an : Int), (pn : Int), turnD an bn pn d, true) := by
 unfold stepV doStepV
 rw [if_neg (by rw [h]; decide), if_pos h, turn_nat q2 q4 q6]
theorem step_inv (a b p : Int) (d : List Int) (s : Step) (h : s.f0 = 2) : stepV a b p d s = (a, b, p, invD d, true) := by
 unfold stepV doStepV
 rw [if_neg (by rw [h]; decide), if_neg (by rw [h]; decide), if_pos h]
theorem runO_cons {a b p : Int} {d : List Int} {s : Step} {l : List Step} {r0 r1 r2 : Int} {r3 : List Int} (h : stepV a b p d s = (r0, r1, r2, r3, true)) : runO a b p d (s :: l) = runO r0 r1 r2 r3 l := by
 rw [runO, h, if_pos rfl]
theorem kind_of {l : List Step} {m : Nat} (h : ¬ (l.take m).any (otherKind l) = true) {s : Step} (hs : s ∈ l.take m) : s.f0 = (rd_T43 l 0).f0 := by
 refine Classical.byContradiction (fun hn => h (List.any_eq_true.2 ⟨s, hs, ?_⟩))
 unfold otherKind
 exact bne_iff_ne.2 hn
theorem two_of {l : List Step} (h : 2 ≤ l.length) : ∃ s t, l.take 2 = [s, t] := by
 match l, h with
 | s :: t :: _, _ => exact ⟨s, t, rfl⟩
theorem four_of {l : List Step} (h : 4 ≤ l.length) : ∃ s t u v, l.take 4 = [s, t, u, v] := by
 match l, h with
 | s :: t :: u :: v :: _, _ => exact ⟨s, t, u, v, rfl⟩
theorem cancel_run {a b p : Int} {d : List Int} (hv : validI a b p d = true) (l : List Step) (h : cancelN l ≠ 0) : runO a b p d (l.take (cancelN l)) = some (a, b, p, d) := by
 have hb := ((validI_iff _ _ _ _).1 hv).2.2
 obtain ⟨an, bn, pn, ea, eb, ep, q1, q2, q3, q4, q5, q6, q7⟩ := nat_of hv
 subst ea eb ep
 unfold cancelN at h ⊢
 by_cases c1 : manyOf (rd_T43 l 0).f0 = 0
 ·rw [if_pos c1] at h; exact absurd rfl h
 rw [if_neg c1] at h ⊢
 by_cases c2 : l.length < manyOf (rd_T43 l 0).f0
 ·rw [if_pos c2] at h; exact absurd rfl h
 rw [if_neg c2] at h ⊢
 by_cases c3 : (l.take (manyOf (rd_T43 l 0).f0)).any (otherKind l) = true
 ·rw [if_pos c3] at h; exact absurd rfl h
 rw [if_neg c3]
 have hk := fun (s : Step) (hs : s ∈ l.take (manyOf (rd_T43 l 0).f0)) => kind_of c3 hs
 clear h c3
 generalize (rd_T43 l 0).f0 = K at c1 c2 hk ⊢
 unfold manyOf at c1 c2 hk ⊢
 by_cases k0 : K = 0
 ·subst k0
  rw [if_pos rfl] at c2 hk ⊢
  obtain ⟨s, t, e⟩ := two_of (l := l) (by omega)
  rw [e] at hk ⊢
  rw [runO_cons (step_mir an bn pn q2 q4 q6 d s (hk s (by simp))), runO_cons (step_mir an bn pn q2 q4 q6 _ t (hk t (by simp))), mir_twice q1 q3 q7]
  rfl
 rw [if_neg k0] at c1 c2 hk ⊢
 by_cases k2 : K = 2
 ·subst k2
  rw [if_pos rfl] at c2 hk ⊢
  obtain ⟨s, t, e⟩ := two_of (l := l) (by omega)
  rw [e] at hk ⊢
  rw [runO_cons (step_inv _ _ _ d s (hk s (by simp))), runO_cons (step_inv _ _ _ _ t (hk t (by simp))), inv_twice hb]
  rfl
 rw [if_neg k2] at c1 c2 hk ⊢
 by_cases k1 : K = 1
 ·subst k1
  rw [if_pos rfl] at c2 hk ⊢
  obtain ⟨s, t, u, v, e⟩ := four_of (l := l) (by omega)
  rw [e] at hk ⊢
  rw [runO_cons (step_turn an bn pn q2 q4 q6 d s (hk s (by simp))), runO_cons (step_turn bn an pn q4 q2 q6 _ t (hk t (by simp))), runO_cons (step_turn an bn pn q2 q4 q6 _ u (hk u (by simp))), runO_cons (step_turn bn an pn q4 q2 q6 _ v (hk v (by simp))), turn_four q1 q3 q7]
  rfl
 ·rw [if_neg k1] at c1; exact absurd rfl c1
theorem simp_run : ∀ (k : Nat) (l : List Step) (i : Nat) (a b p : Int) (d : List Int) {u : Int × Int × Int × List Int}, validI a b p d = true → runO a b p d l = some u → runO a b p d (simpF k l i) = some u ∧ (simpF k l i).length ≤ l.length
 | 0, l, i, a, b, p, d, u, hv, h => ⟨h, Nat.le_refl _⟩
 | k + 1, l, i, a, b, p, d, u, hv, h => by
  rw [simpF_succ]
  by_cases c : i < l.length
  ·rw [if_pos c]
   by_cases c2 : cancelN (l.drop i) = 0
   ·rw [if_pos c2]
    exact simp_run k l (i + 1) a b p d hv h
   ·rw [if_neg c2]
    have hl : l = l.take i ++ ((l.drop i).take (cancelN (l.drop i)) ++ l.drop (i + cancelN (l.drop i))) := by
     rw [← List.drop_drop, List.take_append_drop, List.take_append_drop]
    have hsame : runO a b p d (l.take i ++ l.drop (i + cancelN (l.drop i))) = runO a b p d l := by
     conv => rhs; rw [hl]
     rw [runO_append, runO_append]
     cases hr : runO a b p d (l.take i) with
     | none => rfl
     | some t =>
      obtain ⟨t0, t1, t2, t3⟩ := t
      have htv := runO_valid _ _ _ _ _ hv hr
      show runO t0 t1 t2 t3 _ = runO t0 t1 t2 t3 _
      rw [runO_append, cancel_run htv _ c2]
      rfl
    have ih := simp_run k (l.take i ++ l.drop (i + cancelN (l.drop i))) 0 a b p d hv (hsame.trans h)
    refine ⟨ih.1, Nat.le_trans ih.2 ?_⟩
    rw [List.length_append, List.length_take, List.length_drop]
    omega
  ·rw [if_neg c]
   exact ⟨h, Nat.le_refl _⟩

/- Steps that cancel each other are left out, and the image stays what it was: the law FnSimplifySteps over lists of numbers alone. -/

theorem runs_len (a b p : Int) (d : List Int) (l : List Step) : (runsV a b p d l).2.2.2.1.length ≤ 1024 := by
 unfold runsV
 split
 ·rename_i c
  exact valid_len (runV_valid l a b p d 0 c.1)
 ·simp
theorem FnSimplifySteps : laws_FnSimplifySteps.Pure := by
 intro code _ _ hw
 apply Ev.rounds
 unfold laws_FnSimplifySteps.f
 by_cases c : (code.length : Int) > 1048576
 ·exact ev_pos c (Ev.now true)
 refine ev_neg c ?_
 obtain ⟨w, h, p, d, l, hdl, hll, hpl, hd⟩ := drawSteps code hw
 have hI := impl_RunSteps_ev w h p d l
 have hS := spec_RunSteps_ev w h p d l (by omega) (fun s hs => by have := hpl s hs; omega)
 have hL := runs_len w h p d l
 by_cases hc : (runsV w h p d l).2.2.2.2 = (l.length : Int)
 ·have hg : validI w h p d = true ∧ l.length ≤ 12 := by
   refine Classical.byContradiction (fun hn => ?_)
   unfold runsV at hc
   rw [if_neg hn] at hc
   have hc : (-1 : Int) = (l.length : Int) := hc
   omega
  have hF : impl_SimplifySteps.f l = some (simpF 200 l 0) := by
   unfold impl_SimplifySteps.f
   rw [if_pos (List.all_eq_true.2 (fun s hs => by have := hpl s hs; exact decide_eq_true (by omega))), if_neg (by omega)]
  have hV : runsV w h p d l = runV w h p d l 0 := by unfold runsV; rw [if_pos hg]
  rw [hV] at hI hS hc hL
  have hfull := runO_full l w h p d 0 (by rw [hc]; omega)
  generalize runV w h p d l 0 = V at hI hS hc hL hfull
  obtain ⟨v0, v1, v2, v3, vn⟩ := V
  have hL : v3.length ≤ 1024 := hL
  have hc : vn = (l.length : Int) := hc
  have hfull : runO w h p d l = some (v0, v1, v2, v3) := hfull
  obtain ⟨hs, hle⟩ := simp_run 200 l 0 w h p d hg.1 hfull
  have hI2 := impl_RunSteps_ev w h p d (simpF 200 l 0)
  unfold runsV at hI2
  rw [if_pos ⟨hg.1, by omega⟩, runV_of _ _ _ _ _ 0 hs] at hI2
  have heq := ev_val (equalImage_ev v0 v1 v2 v3 v0 v1 v2 v3 (by omega)) (decide_eq_true ⟨rfl, rfl, rfl, rfl⟩)
  refine ev_bind hd (ev_bind hI (ev_bind hS (ev_bind heq (ev_pos rfl (ev_pos rfl ?_)))))
  generalize simpF 200 l 0 = m at hF hI2 hle
  refine Ev.step (f := fun k => (impl_SimplifySteps.f l).bind fun t => (impl_RunSteps.f k w h p d t).bind fun u => if u.2.2.2.2 = (t.length : Int) then ((laws_equalImage.f k u.1 u.2.1 u.2.2.1 u.2.2.2.1 v0 v1 v2 v3).bind fun z => if z = true then some (decide ((t.length : Int) ≤ (l.length : Int))) else some false) else some false) (fun k => ?_) (ev_now hF (ev_bind hI2 (ev_pos (by show (0 : Int) + (m.length : Int) = (m.length : Int); omega) (ev_bind heq (ev_pos rfl (ev_const (congrArg some (decide_eq_true (by omega)))))))))
  simp only [laws_FnSimplifySteps.j0]
  rw [if_neg (by simp [hc])]
 ·generalize runsV w h p d l = V at hI hS hc hL
  obtain ⟨v0, v1, v2, v3, vn⟩ := V
  have hL : v3.length ≤ 1024 := hL
  have hc : ¬ vn = (l.length : Int) := hc
  have heq := ev_val (equalImage_ev v0 v1 v2 v3 v0 v1 v2 v3 (by omega)) (decide_eq_true ⟨rfl, rfl, rfl, rfl⟩)
  refine ev_bind hd (ev_bind hI (ev_bind hS (ev_bind heq (ev_pos rfl (ev_pos rfl ?_)))))
  refine Ev.step (f := fun k => (laws_equalImage.f k v0 v1 v2 v3 v0 v1 v2 v3).bind fun t => if t = true then some (vn == vn) else some false) (fun k => ?_) (ev_bind heq (ev_pos rfl (ev_const (by rw [beq_self_eq_true]))))
  simp only [laws_FnSimplifySteps.j0]
  rw [if_pos (by simpa using hc)]
end Go.Proofs.Ytgccpcnakkioiaa.Pure

/- The head of the translation reads as a plain cut. -/
namespace Go.Proofs.Ytgccpcnakkioiaa.Head
set_option maxRecDepth 100000
theorem wordsSigns_word (w r : List Char) (h : w.all (fun c => !(c == Char.ofNat 32)) = true) : wordsSigns (w ++ Char.ofNat 32 :: r) = w :: wordsSigns r := by
  induction w with
  | nil => rfl
  | cons c w ih =>
    simp only [List.all_cons, Bool.and_eq_true, Bool.not_eq_true', beq_eq_false_iff_ne, ne_eq] at h
    have h1 := ih (by simpa using h.2)
    rw [List.cons_append, wordsSigns.eq_3 c _ h.1, h1]
def w1 : List Char := [104, 97, 114, 110, 101, 115, 115].map Char.ofNat
def w2 : List Char := [52, 49, 100, 48, 51, 48, 57, 101, 54, 52, 50, 98, 53, 55, 98, 54, 49, 99, 54, 49, 56, 48, 55, 53, 48, 48, 51, 50, 51, 98, 100, 52, 101, 99, 48, 51, 97, 52, 49, 54, 56, 100, 48, 98, 55, 54, 100, 54, 97, 97, 98, 98, 100, 98, 51, 102, 53, 102, 100, 102, 101, 51, 100, 56].map Char.ofNat
def w3 : List Char := [99, 117, 116].map Char.ofNat
def w4 : List Char := [97, 116, 32, 108, 111, 111, 112, 46, 101, 120, 97, 109, 112, 108, 101, 47, 112, 105, 120, 101, 108, 119, 111, 114, 107, 115, 47, 108, 97, 119, 115, 46, 70, 110, 69, 120, 97, 99, 116, 82, 117, 110, 83, 116, 101, 112, 115, 32, 108, 111, 111, 112, 46, 101, 120, 97, 109, 112, 108, 101, 47, 112, 105, 120, 101, 108, 119, 111, 114, 107, 115, 47, 108, 97, 119, 115, 46, 70, 110, 68, 111, 83, 116, 101, 112, 32, 108, 111, 111, 112, 46, 101, 120, 97, 109, 112, 108, 101, 47, 112, 105, 120, 101, 108, 119, 111, 114, 107, 115, 47, 108, 97, 119, 115, 46, 70, 110, 68, 111, 83, 116, 101, 112, 70, 105, 108, 108, 32, 108, 111, 111, 112, 46, 101, 120, 97, 109, 112, 108, 101, 47, 112, 105, 120, 101, 108, 119, 111, 114, 107, 115, 47, 108, 97, 119, 115, 46, 70, 110, 69, 120, 97, 99, 116, 68, 111, 83, 116, 101, 112, 32, 108, 111, 111, 112, 46, 101, 120, 97, 109, 112, 108, 101, 47, 112, 105, 120, 101, 108, 119, 111, 114, 107, 115, 47, 108, 97, 119, 115, 46, 70, 110, 82, 117, 110, 83, 116, 101, 112, 115, 80, 97, 114, 116, 115, 32, 108, 111, 111, 112, 46, 101, 120, 97, 109, 112, 108, 101, 47, 112, 105, 120, 101, 108, 119, 111, 114, 107, 115, 47, 108, 97, 119, 115, 46, 70, 110, 82, 117, 110, 83, 116, 101, 112, 115, 32, 108, 111, 111, 112, 46, 101, 120, 97, 109, 112, 108, 101, 47, 112, 105, 120, 101, 108, 119, 111, 114, 107, 115, 47, 108, 97, 119, 115, 46, 70, 110, 83, 105, 109, 112, 108, 105, 102, 121, 83, 116, 101, 112, 115].map Char.ofNat
theorem signs0 : Try.prog.initOrder = String.ofList (w1 ++ Char.ofNat 32 :: (w2 ++ Char.ofNat 32 :: (w3 ++ Char.ofNat 32 :: w4))) := by kernel_rfl
theorem behind : behindMainWord (wordsSigns Try.prog.initOrder.toList) = w3 :: wordsSigns w4 := by
  rw [signs0, String.toList_ofList, wordsSigns_word w1 _ (by kernel_rfl), wordsSigns_word w2 _ (by kernel_rfl), wordsSigns_word w3 _ (by kernel_rfl)]
  unfold behindMainWord
  dsimp only
  rw [if_pos (by kernel_rfl)]
theorem strip_cut (R : List (List Char)) : stripLifts liftWords (w3 :: R) = ([], w3 :: R) := by kernel_rfl
theorem mayEnter_of (P : Program) (R : List (List Char)) (h : behindMainWord (wordsSigns P.initOrder.toList) = w3 :: R) (h1 : P.laysLater = false) (h2 : P.bearsReflect = false) (h3 : P.doorFits [] = true) : P.mayEnter = true := by
  unfold Program.mayEnter
  rw [h]
  dsimp only
  rw [strip_cut, h1, h2, h3]
  kernel_rfl
theorem liftsFinal_of (P : Program) (R : List (List Char)) (h : behindMainWord (wordsSigns P.initOrder.toList) = w3 :: R) : P.liftsFinal = false := by
  unfold Program.liftsFinal Program.headLifts
  rw [h]
  dsimp only
  rw [strip_cut]
  kernel_rfl
theorem make_of (P : Program) (R : List (List Char)) (h : behindMainWord (wordsSigns P.initOrder.toList) = w3 :: R) : P.make = some .cut := by
  unfold Program.make
  rw [h]
  kernel_rfl
theorem mayEnter : Try.prog.mayEnter = true := mayEnter_of _ _ behind (by kernel_rfl) (by kernel_rfl) (by kernel_rfl)
theorem liftsFinal : Try.prog.liftsFinal = false := liftsFinal_of _ _ behind
theorem make : Try.prog.make = some .cut := make_of _ _ behind
end Go.Proofs.Ytgccpcnakkioiaa.Head

-- PRINTED by print.py: the row of the law laws_FnSimplifySteps, out of its Pure (the session's) and the printed walk. Not trusted: Lean checks it.
namespace Go.Proofs.Ytgccpcnakkioiaa.fnSimplifySteps
open Go.ChangeShapes Go.WideShapes Go.ChangeAt Go.RowKit
open Go.ChangeMaps (open_string shut_string)
set_option linter.unusedVariables false
theorem own : ownKnob Try.prog.godebug = none := by kernel_rfl
theorem laidOut : laidOutB Try.prog = true := by kernel_rfl
def IsRow (k : IntKind) (w : World) (a : Option Addr) (len cap : Nat) (zs : List Int) : Prop :=
  (a = none ∧ len = 0 ∧ cap = 0 ∧ zs = []) ∨
  ∃ x, a = some x ∧ len ≤ cap ∧ cap ≤ maxLen ∧ zs.length = cap ∧ (∀ i, i < zs.length → w.cell? (x.add i) = some (.int k (zs.getD i 0))) ∧ ∀ n ∈ zs, (Lit.int k n).wf = true
set_option maxRecDepth 100000 in
theorem lifted (os : Os) (started : os.Started) (H : Type) (enc : TypeId × Value → H) :
    ReturnsInHanded {} Try.checked os 9 .any (Rows.fnSimplifyStepsSpec.pre6 enc Try.prog Try.f9 Rows.fnSimplifyStepsRow.domain false) (Rows.fnSimplifyStepsSpec.post enc Try.prog Try.f9 false true false false) := by
  refine returnsInHanded_of_change_sized (C := Try.checked) own started (by kernel_rfl) Try.func9
    (ChangeSpec.witness6 (enc := enc) (C := Try.checked) false ⟨#[], #[.slice none 0 0], []⟩ 8 (by kernel_rfl) (by kernel_rfl) (by kernel_rfl) (by kernel_rfl)) ?_
  intro W base args ds gs before hval0 hW hcnd hsz0 _
  have hsz : (DataW.weightsEach Try.prog (Try.f9.params.toList ++ Rows.fnSimplifyStepsSpec.plain.varTypes Try.prog) (ds ++ gs)).all (· ≤ reachBytes) = true := hsz0
  have hval : ∀ (j : Nat) t v, Try.f9.params[j]? = some t → args[j]? = some v → Value.okWide Try.prog W .any base t v := hval0
  have hW' := hW
  obtain ⟨p, q, hA0, hV, rfl, hfz, hnd⟩ := hW
  have hA : DataW.TrodAll enc Try.prog W 0 (fun _ => true) true Try.f9.params.toList args.toList ds p := hA0
  rw [Try.params9] at hA hval hsz
  obtain ⟨v0, vs0, d0, ds0, p0, q0, hargs, rfl, rfl, h0, r0⟩ := trodAll_cons hA
  obtain ⟨rfl, rfl, rfl⟩ := trodAll_nil r0
  obtain rfl : args = #[v0] := by cases args; simp_all
  obtain ⟨rfl, rfl⟩ := trodVars_none hV
  obtain ⟨a0, len0, cap0, rfl⟩ := okWide_slice Try.underlying39 (hval 0 39 v0 rfl rfl)
  have k0 := h0
  have lt0 : ∀ x ∈ p0, x.block < W.heap.size := by obtain ⟨m, hm⟩ := k0; exact DataW.trod_lt m _ _ _ hm
  obtain ⟨z0, w0⟩ : ∃ zs, IsRow .u8 W a0 len0 cap0 zs := by
    obtain ⟨fuel, hf⟩ := h0
    rcases open_ints Try.underlying39 Try.underlying5 (by kernel_rfl) hf with ⟨hcs, _⟩ | ⟨x, l, c, zs, hcs, _, hl, hm, hz, _, hcell, hwz⟩
    · simp [Value.cells] at hcs
      obtain ⟨rfl, rfl, rfl⟩ := hcs
      exact ⟨[], .inl ⟨rfl, rfl, rfl, rfl⟩⟩
    · simp [Value.cells] at hcs
      obtain ⟨rfl, rfl, rfl⟩ := hcs
      exact ⟨zs, .inr ⟨_, rfl, hl, hm, by simpa using hz, hcell, hwz⟩⟩
  have y0 : len0 * 1 ≤ 140737488351232 := Go.Proofs.YtgccpcnakkioiaaW.PrintWords.sized_ints hsz (j := 0) (t := 39) rfl rfl Try.underlying39 Try.underlying5 (by kernel_rfl) (by kernel_rfl) h0
  clear hA0 hval0 hsz0 hsz
  refine (Q.laws_FnSimplifySteps.walk Pure.FnSimplifySteps a0 len0 cap0 z0 W w0 y0).mono fun e W' ⟨he, bel⟩ => ?_
  subst he
  exact ⟨_, rfl, _, _, _, [], _, [], hW', trodAll_mk1 (shut_bool Try.underlying4 _), (trodAll_cons_mk (Below.trod laidOut (by kernel_rfl) (of_decide_eq_true (by kernel_rfl)) k0 bel lt0) trodAll_mk0), rfl, bel.frame _, fun h => by cases h⟩
set_option maxHeartbeats 4000000 in
theorem closed : joinedFacts Try.prog 9 Try.f9 Rows.fnSimplifyStepsSpec Rows.fnSimplifyStepsRow = true := by
  unfold joinedFacts
  rw [Head.mayEnter, Head.liftsFinal, Head.make]
  simp only [Bool.and_eq_true]
  repeat' apply And.intro
  all_goals first | exact True.intro | (as_aux_lemma => kernel_rfl)
theorem over : Rows.fnSimplifyStepsRow.holds Try.pinned (OpenSpec.ofChange Rows.fnSimplifyStepsSpec) :=
  OpenClaim.holds_of_wide 9 Try.f9 rfl rfl rfl rfl rfl rfl rfl ⟨rfl, rfl, rfl, rfl, rfl⟩ rfl rfl rfl rfl rfl (by kernel_rfl) Try.func9 closed
    (of_decide_eq_true (by kernel_rfl)) (by unfold Func.isWrapper; first | (rw [if_pos (by decide +kernel)]; kernel_rfl) | (rw [if_neg (by decide +kernel)]; exact ⟨rfl, rfl⟩))
    (fun os started H enc _ => lifted os started H enc)
theorem proved : Rows.FnSimplifyStepsSaid := over
#print axioms proved
end Go.Proofs.Ytgccpcnakkioiaa.fnSimplifySteps
namespace Go.Proofs.Ytgccpcnakkioiaa
/-- The row, under a short name, for the claim. -/
theorem fnSimplifySteps_holds : Rows.FnSimplifyStepsSaid := fnSimplifySteps.proved
end Go.Proofs.Ytgccpcnakkioiaa
