/- A part of the proof that the statement FnValidPackingTwiceSaid holds, under no condition of its own: No box can be there twice: the law FnValidPackingTwice over lists of numbers alone. -/
import Derived.Test.YtgfjccegehnjcaaCFnValidPackingTwice1
import Derived.Test.YtgfjccegehnjcaaCFnValidPackingTwice2
import Derived.Test.YtgfjccegehnjcaaCFnValidPackingTwice3
import Derived.Shelf.Abstract
import Derived.Test.YtgfjccegehnjcaaRows
import Derived.JoinedOf
import Derived.KernelRfl
import Derived.WalkKit
import Derived.ProofKit
import Derived.OpenShut
import Derived.ShutString
import Derived.ChangeOld
import Derived.Below
import Derived.SizedLaws
import Derived.Test.YtgfjccegehnjcaaCFnValidPackingTwiceW1
namespace Go.Proofs.Ytgfjccegehnjcaa.Q
open Go.RowKit Go.Proofs.YtgfjccegehnjcaaW.PrintWords Go.Proofs.YtgfjccegehnjcaaW.PrintLast Go.Proofs.YtgfjccegehnjcaaW.PrintMore
attribute [local go_sem] max2_int min2_int max_two min_two max_three min_three max_four min_four
set_option linter.unusedVariables false
set_option linter.unusedSimpArgs false
def spec_DrawValidPacking.j0 : Nat → Int → List (S50) → Int → Bool → List Int → Int → Option ((List (S50)) × Int × Int)
  | 0, _, _, _, _, _, _ => none
  | k + 1, x7, x8, x9, x31, x33004000, x33004001 => if x31 = true then ((spec_reader_pick.f k x33004000 x33004001 (x8.length : Int)).bind fun bt33014 => (if 0 ≤ bt33014.1 then (if bt33014.1 < (x8.length : Int) then ((spec_reader_pick.f k x33004000 bt33014.2 5).bind fun bt33017 => ((some (x8.set (bt33014.1 : Int).toNat (⟨wrap64 ((wrap64 (((rd_T50 x8 bt33014.1).f0) + bt33017.1)) - 2), (rd_T50 x8 bt33014.1).f1, (rd_T50 x8 bt33014.1).f2, (rd_T50 x8 bt33014.1).f3⟩ : S50) : List (S50))).bind fun y33019 => ((spec_reader_pick.f k x33004000 bt33017.2 3).bind fun bt33021 => ((spec_reader_one.f k x33004000 bt33021.2 (([0, 0, 0, 3, (-1)] : List Int))).bind fun bt33027 => (some ((y33019.set (bt33014.1 : Int).toNat (⟨(rd_T50 y33019 bt33014.1).f0, wrap64 ((wrap64 (((rd_T50 y33019 bt33014.1).f1) + bt33021.1)) - 1), (rd_T50 y33019 bt33014.1).f2, (rd_T50 y33019 bt33014.1).f3⟩ : S50)), x7, wrap64 ((mx x9 0) + bt33027.1))))))) else (none)) else (none))) else ((spec_reader_one.f k x33004000 x33004001 (([0, 0, 0, 3, (-1)] : List Int))).bind fun bt33032 => (some (x8, x7, wrap64 ((mx x9 0) + bt33032.1))))
def spec_DrawValidPacking.f (k : Nat) (l0 : List Int) : Option ((List (S50)) × Int × Int) := (spec_newReader.f l0).bind fun bt33001 => ((spec_DrawPackSprites.f k l0).bind fun bt33004 => ((spec_PackSprites.f k bt33004.1 bt33004.2).bind fun bt33008 => (if (bt33008.1.length : Int) > 0 then ((spec_reader_pick.f k bt33001.1 bt33001.2 3).bind fun bt33012 => (spec_DrawValidPacking.j0 k bt33004.2 bt33008.1 bt33008.2 (bt33012.1 == 0) bt33001.1 bt33012.2)) else (spec_DrawValidPacking.j0 k bt33004.2 bt33008.1 bt33008.2 false bt33001.1 bt33001.2))))
def spec_DrawValidPacking.T6 : Bool × List (List Nat × List Nat) := (true, [([], []), ([], []), ([], []), ([], []), ([2, 3], [2, 3]), ([4], [4]), ([5], [5]), ([], []), ([7], [7]), ([6, 8], [6, 8]), ([9], [9]), ([0, 1, 0, 1, 2, 3, 4, 5, 6, 7, 8, 9, 10], [0, 1]), ([11, 0, 1, 2, 3, 4, 5, 6, 7, 8, 9, 10], [11]), ([12, 10, 8, 0, 1, 2, 3, 4, 5, 6, 7, 8, 9, 10], [10, 12])])
def spec_DrawValidPacking.B6 : List Nat := [0, 0, 0, 0, 12, 28, 60, 0, 128, 508, 1020, 2047, 4095, 8191]
theorem spec_DrawValidPacking.tab6 : rtab .any (opsOf Try.f32 6) = spec_DrawValidPacking.T6 := by kernel_rfl
theorem spec_DrawValidPacking.bits6 : waitsOk spec_DrawValidPacking.T6.2 spec_DrawValidPacking.B6 = true := by kernel_rfl
def spec_DrawValidPacking.T7 : Bool × List (List Nat × List Nat) := (true, [([], []), ([], []), ([], []), ([], []), ([2, 3], [2, 3]), ([4], [4]), ([5], [5]), ([], []), ([7], [7]), ([6, 8], [6, 8]), ([9], [9]), ([0, 1, 0, 1, 2, 3, 4, 5, 6, 7, 8, 9, 10], [0, 1]), ([11, 0, 1, 2, 3, 4, 5, 6, 7, 8, 9, 10], [11]), ([12, 10, 8, 0, 1, 2, 3, 4, 5, 6, 7, 8, 9, 10], [10, 12])])
def spec_DrawValidPacking.B7 : List Nat := [0, 0, 0, 0, 12, 28, 60, 0, 128, 508, 1020, 2047, 4095, 8191]
theorem spec_DrawValidPacking.tab7 : rtab .any (opsOf Try.f32 7) = spec_DrawValidPacking.T7 := by kernel_rfl
theorem spec_DrawValidPacking.bits7 : waitsOk spec_DrawValidPacking.T7.2 spec_DrawValidPacking.B7 = true := by kernel_rfl
set_option maxHeartbeats 8000000 in
set_option maxRecDepth 100000 in
theorem spec_DrawValidPacking.calls (k : Nat) (A0 : Option Addr) (c0 : Nat) (l0 : List Int) (r1 : List (S50)) (r2 : Int) (r3 : Int) (w : World) (hr0 : Kd.C (Kd.int .u8) w A0 l0.length l0) (hc0 : l0.length ≤ c0) (h : spec_DrawValidPacking.f k l0 = some (r1, r2, r3)) :
    Calls Try.prog 32 #[.slice A0 l0.length c0] w fun e w' => ∃ v0_ : Value, e = .returned (.tuple #[v0_, .int .i64 r2, .int .i64 r3]) ∧ Kd.R k50 50 w' w.heap.size (fun _ => True) v0_ r1 ∧ Below w.heap.size w w' := by
  have HR0 := Aside0.mk hr0
  have HC0 := Aside0.mk hc0
  clear hr0 hc0
  have HB := Aside0.mk (Below.refl w.heap.size w)
  have H : ((spec_newReader.f l0).bind fun bt33001 => ((spec_DrawPackSprites.f k l0).bind fun bt33004 => ((spec_PackSprites.f k bt33004.1 bt33004.2).bind fun bt33008 => (if (bt33008.1.length : Int) > 0 then ((spec_reader_pick.f k bt33001.1 bt33001.2 3).bind fun bt33012 => (spec_DrawValidPacking.j0 k bt33004.2 bt33008.1 bt33008.2 (bt33012.1 == 0) bt33001.1 bt33012.2)) else (spec_DrawValidPacking.j0 k bt33004.2 bt33008.1 bt33008.2 false bt33001.1 bt33001.2))))) = some (r1, r2, r3) := h
  clear h
  replace H := Option.bind_eq_some_iff.mp H
  obtain ⟨⟨t33001, t33002⟩, A20, H⟩ := H
  replace H : ((spec_DrawPackSprites.f k l0).bind fun bt33004 => ((spec_PackSprites.f k bt33004.1 bt33004.2).bind fun bt33008 => (if (bt33008.1.length : Int) > 0 then ((spec_reader_pick.f k t33001 t33002 3).bind fun bt33012 => (spec_DrawValidPacking.j0 k bt33004.2 bt33008.1 bt33008.2 (bt33012.1 == 0) t33001 bt33012.2)) else (spec_DrawValidPacking.j0 k bt33004.2 bt33008.1 bt33008.2 false t33001 t33002)))) = some (r1, r2, r3) := H
  have A2 := Aside0.mk A20
  clear A20
  replace H := Option.bind_eq_some_iff.mp H
  obtain ⟨⟨t33004, t33005⟩, A30, H⟩ := H
  replace H : ((spec_PackSprites.f k t33004 t33005).bind fun bt33008 => (if (bt33008.1.length : Int) > 0 then ((spec_reader_pick.f k t33001 t33002 3).bind fun bt33012 => (spec_DrawValidPacking.j0 k t33005 bt33008.1 bt33008.2 (bt33012.1 == 0) t33001 bt33012.2)) else (spec_DrawValidPacking.j0 k t33005 bt33008.1 bt33008.2 false t33001 t33002))) = some (r1, r2, r3) := H
  have A3 := Aside0.mk A30
  clear A30
  replace H := Option.bind_eq_some_iff.mp H
  obtain ⟨⟨t33008, t33009⟩, A40, H⟩ := H
  replace H : (if (t33008.length : Int) > 0 then ((spec_reader_pick.f k t33001 t33002 3).bind fun bt33012 => (spec_DrawValidPacking.j0 k t33005 t33008 t33009 (bt33012.1 == 0) t33001 bt33012.2)) else (spec_DrawValidPacking.j0 k t33005 t33008 t33009 false t33001 t33002)) = some (r1, r2, r3) := H
  have A4 := Aside0.mk A40
  clear A40
  have HC5 := Aside0.mk H
  clear H
  go_enter Try.func32, Try.ntmps32
  go_upto_region 4 with (first | ((with_reducible refine gate_callee (f := 59) rfl ?_); refine goesL_ (some 12) rfl rfl Try.func59 (by kernel_rfl) rfl #[.slice A0 l0.length c0] rfl (by (try simp only [List.map_toArray, List.map_cons, List.map_nil]); first | done | rfl | (simp only [List.length_drop, List.length_take]; rfl)) ?_; (with_reducible refine (spec_newReader.calls _ _ l0 t33001 t33002 w _ ?side1 ?side2 ?side3 A2.out).mono ?_); (case side1 => repeat (first | (with_reducible first | exact HB.out | apply below_alloc | apply pw_below_drewN | apply below_drew1) | exact HB.out)); (case side2 => exact HR0.out); (case side3 => exact HC0.out); rintro e w6 ⟨g33003, rfl, hi, hb, hb2⟩; refine ⟨_, rfl, ?_⟩; have n0_ := Aside0.mk (hb); have n1_ := Aside0.mk (hi); clear HB; have HB := n0_; have HI33003 := n1_; clear n0_ n1_; (try clear hb); (try clear hb2); (try clear hk); (try clear hi)) | ((with_reducible refine gate_callee (f := 33) rfl ?_); refine goesL_ (some 15) rfl rfl Try.func33 (by kernel_rfl) rfl #[.slice A0 l0.length c0] rfl (by (try simp only [List.map_toArray, List.map_cons, List.map_nil]); first | done | rfl | (simp only [List.length_drop, List.length_take]; rfl)) ?_; (with_reducible refine (spec_DrawPackSprites.calls k _ _ l0 t33004 t33005 _ ?side1 ?side2 A3.out).mono ?_); (case side1 => repeat (first | exact (Kd.C_below HR0.out HB.out) | (with_reducible refine Kd.C_alloc ?_ _) | (with_reducible refine Kd.C_drewN ?_ _) | (with_reducible refine Kd.C_drew ?_))); (case side2 => exact HC0.out); rintro e w7 ⟨v33006, rfl, ho0, hb⟩; refine ⟨_, rfl, ?_⟩; have n0_ := Aside0.mk (Kd.R_lower ho0 (below_size (by repeat (first | (with_reducible first | exact HB.out | apply below_alloc | apply pw_below_drewN | apply below_drew1 | refine below_set ?_ (IsS107.ge HI33003.out)) | exact HB.out)))); have n1_ := Aside0.mk (IsS107.below (by repeat (first | (with_reducible first | exact HI33003.out | apply IsS107.alloc | apply IsS107.drewN | apply IsS107.drew | apply IsS107.set_1) | exact HI33003.out)) hb); have n2_ := Aside0.mk (below_step (by repeat (first | (with_reducible first | exact HB.out | apply below_alloc | apply pw_below_drewN | apply below_drew1 | refine below_set ?_ (IsS107.ge HI33003.out)) | exact HB.out)) hb); clear HI33003; clear HB; have HO33007 := n0_; have HI33003 := n1_; have HB := n2_; clear n0_ n1_ n2_; (try clear hb); (try clear hb2); (try clear hk); (try clear hi); (try clear ho0); obtain ⟨Ao8, co8, eo8⟩ := Kd.R_slice HO33007.out; subst eo8) | ((with_reducible refine gate_callee (f := 35) rfl ?_); refine goesL_ (some 21) rfl rfl Try.func35 (by kernel_rfl) rfl #[.slice Ao8 t33004.length co8, .int .i64 t33005] rfl (by (try simp only [List.map_toArray, List.map_cons, List.map_nil]); first | done | rfl | (simp only [List.length_drop, List.length_take]; rfl)) ?_; (with_reducible refine (spec_PackSprites.calls k _ _ t33004 t33005 t33008 t33009 _ ?side1 ?side2 A4.out).mono ?_); (case side1 => repeat (first | exact (Kd.R_reads' HO33007.out).2.2 | (with_reducible refine Kd.C_alloc ?_ _) | (with_reducible refine Kd.C_drewN ?_ _) | (with_reducible refine Kd.C_drew ?_))); (case side2 => exact (Kd.R_reads' HO33007.out).2.1); rintro e w9 ⟨v33010, rfl, ho0, hb⟩; refine ⟨_, rfl, ?_⟩; have n0_ := Aside0.mk (Kd.R_below (by (with_reducible repeat (first | apply Kd.R_alloc | apply Kd.R_drewN | apply Kd.R_drew)); exact HO33007.out) hb); have n1_ := Aside0.mk (Kd.R_lower ho0 (below_size (by repeat (first | (with_reducible first | exact HB.out | apply below_alloc | apply pw_below_drewN | apply below_drew1 | refine below_set ?_ (IsS107.ge HI33003.out)) | exact HB.out)))); have n2_ := Aside0.mk (IsS107.below (by repeat (first | (with_reducible first | exact HI33003.out | apply IsS107.alloc | apply IsS107.drewN | apply IsS107.drew | apply IsS107.set_1) | exact HI33003.out)) hb); have n3_ := Aside0.mk (below_step (by repeat (first | (with_reducible first | exact HB.out | apply below_alloc | apply pw_below_drewN | apply below_drew1 | refine below_set ?_ (IsS107.ge HI33003.out)) | exact HB.out)) hb); clear HO33007; clear HI33003; clear HB; have HO33007 := n0_; have HO33011 := n1_; have HI33003 := n2_; have HB := n3_; clear n0_ n1_ n2_ n3_; (try clear hb); (try clear hb2); (try clear hk); (try clear hi); (try clear ho0)))
  (try simp only [Act.put, List.setIfInBounds_toArray, List.set_cons_zero, List.set_cons_succ])
  go_cut [31] (fun v31 wc => ∃ (kq : Nat) (x31_4 : Bool) (x33004001_4 : Int), v31 = .bool x31_4 ∧ Aside0 (spec_DrawValidPacking.j0 kq t33005 t33008 t33009 x31_4 t33001 x33004001_4 = some (r1, r2, r3)) ∧ Aside0 (kq ≤ k) ∧ Aside0 (Kd.R k50 50 wc w.heap.size (fun _ => True) v33010 t33008) ∧ Aside0 (IsS107 w wc g33003 t33001 x33004001_4) ∧ Aside0 (Below w.heap.size w wc))
  case first =>
    have H := HC5.out
    clear HC5
    by_cases c10 : (t33008.length : Int) > 0
    · rw [if_pos c10] at H
      have c10b0 : decide (0 < (t33008.length : Int)) = true := decide_eq_true c10
      have c10b1 : decide (0 < t33008.length) = true := decide_eq_true (by omega)
      clear c10
      (first | rw [c10b0] | (simp only [i64_w, i32_w]; rw [c10b0]) | skip)
      replace H := Option.bind_eq_some_iff.mp H
      obtain ⟨⟨t33012, t33013⟩, A110, H⟩ := H
      replace H : (spec_DrawValidPacking.j0 k t33005 t33008 t33009 (t33012 == 0) t33001 t33013) = some (r1, r2, r3) := H
      have A11 := Aside0.mk A110
      clear A110
      have H' := Aside0.mk H
      clear H
      obtain ⟨Ao12, co12, eo12⟩ := Kd.R_slice HO33011.out
      subst eo12
      go_wp2_with (first | (go_at_call 61; (with_reducible refine (spec_reader_pick.calls k g33003 t33001 t33002 3 t33012 t33013 w _ ?side1 ?side2 A11.out).mono ?_); (case side1 => repeat (first | (with_reducible first | exact HI33003.out | apply IsS107.alloc | apply IsS107.drewN | apply IsS107.drew | apply IsS107.set_1) | exact HI33003.out)); (case side2 => repeat (first | (with_reducible first | exact HB.out | apply below_alloc | apply pw_below_drewN | apply below_drew1 | refine below_set ?_ (IsS107.ge HI33003.out)) | exact HB.out)); rintro e w13 ⟨rfl, hi, hb, hk⟩; have n0_ := Aside0.mk (Kd.R_mono (Kd.R_keep (IsS107.apart (show IsS107 w _ g33003 t33001 t33002 from by repeat (first | (with_reducible first | exact HI33003.out | apply IsS107.alloc | apply IsS107.drewN | apply IsS107.drew | apply IsS107.set_1) | exact HI33003.out)) (by (with_reducible repeat (first | apply Kd.R_alloc | apply Kd.R_drewN | apply Kd.R_drew)); exact HO33007.out) (by decide)) hk (fun _ h => h.2)) (fun _ h => h.1)); have n1_ := Aside0.mk (Kd.R_mono (Kd.R_keep (IsS107.apart (show IsS107 w _ g33003 t33001 t33002 from by repeat (first | (with_reducible first | exact HI33003.out | apply IsS107.alloc | apply IsS107.drewN | apply IsS107.drew | apply IsS107.set_1) | exact HI33003.out)) (by (with_reducible repeat (first | apply Kd.R_alloc | apply Kd.R_drewN | apply Kd.R_drew)); exact HO33011.out) (by decide)) hk (fun _ h => h.2)) (fun _ h => h.1)); have n2_ := Aside0.mk (hb); have n3_ := Aside0.mk (hi); clear HO33007; clear HO33011; clear HB; clear HI33003; have HO33007 := n0_; have HO33011 := n1_; have HB := n2_; have HI33003 := n3_; clear n0_ n1_ n2_ n3_; (try clear hb); (try clear hb2); (try clear hk); (try clear hi)))
      go_meet
      case rel => exact ⟨_, ((t33012 == 0)), (t33013), (by first | rfl | (simp; done) | (simp [*]; done)), H', ⟨by first | omega | exact Nat.le_refl _⟩, ⟨by (with_reducible repeat (first | apply Kd.R_alloc | apply Kd.R_drewN | apply Kd.R_drew)); exact HO33011.out⟩, ⟨by repeat (first | (with_reducible first | exact HI33003.out | apply IsS107.alloc | apply IsS107.drewN | apply IsS107.drew | apply IsS107.set_1) | exact HI33003.out)⟩, ⟨by repeat (first | (with_reducible first | exact HB.out | apply below_alloc | apply pw_below_drewN | apply below_drew1 | refine below_set ?_ (IsS107.ge HI33003.out)) | exact HB.out)⟩⟩
    · rw [if_neg c10] at H
      have c10b0 : decide (0 < (t33008.length : Int)) = false := decide_eq_false c10
      have c10b1 : decide (0 < t33008.length) = false := decide_eq_false (by omega)
      clear c10
      (first | rw [c10b0] | (simp only [i64_w, i32_w]; rw [c10b0]) | skip)
      have H' := Aside0.mk H
      clear H
      obtain ⟨Ao14, co14, eo14⟩ := Kd.R_slice HO33011.out
      subst eo14
      go_wp2
      go_meet
      case rel => exact ⟨_, (false), (t33002), (by first | rfl | (simp; done) | (simp [*]; done)), H', ⟨by first | omega | exact Nat.le_refl _⟩, ⟨by (with_reducible repeat (first | apply Kd.R_alloc | apply Kd.R_drewN | apply Kd.R_drew)); exact HO33011.out⟩, ⟨by repeat (first | (with_reducible first | exact HI33003.out | apply IsS107.alloc | apply IsS107.drewN | apply IsS107.drew | apply IsS107.set_1) | exact HI33003.out)⟩, ⟨by repeat (first | (with_reducible first | exact HB.out | apply below_alloc | apply pw_below_drewN | apply below_drew1 | refine below_set ?_ (IsS107.ge HI33003.out)) | exact HB.out)⟩⟩
  case rest =>
    clear HC5
    try clear c1
    try clear p2
    try clear c3
    try clear c5
    try clear c10
    try clear c10b0
    try clear c10b1
    obtain ⟨kq, x31_4, x33004001_4, rfl, HA, HJ4, HO_8, HI33003, HB⟩ := hcut
    cases kq with
    | zero => exact absurd HA.out (by simp [spec_DrawValidPacking.j0])
    | succ kj4 =>
      have H := HA.out
      clear HA
      simp only [spec_DrawValidPacking.j0] at H
      by_cases c15 : x31_4 = true
      · subst c15
        have H1 : ((spec_reader_pick.f kj4 t33001 x33004001_4 (t33008.length : Int)).bind fun bt33014 => (if 0 ≤ bt33014.1 then (if bt33014.1 < (t33008.length : Int) then ((spec_reader_pick.f kj4 t33001 bt33014.2 5).bind fun bt33017 => ((some (t33008.set (bt33014.1 : Int).toNat (⟨wrap64 ((wrap64 (((rd_T50 t33008 bt33014.1).f0) + bt33017.1)) - 2), (rd_T50 t33008 bt33014.1).f1, (rd_T50 t33008 bt33014.1).f2, (rd_T50 t33008 bt33014.1).f3⟩ : S50) : List (S50))).bind fun y33019 => ((spec_reader_pick.f kj4 t33001 bt33017.2 3).bind fun bt33021 => ((spec_reader_one.f kj4 t33001 bt33021.2 (([0, 0, 0, 3, (-1)] : List Int))).bind fun bt33027 => (some ((y33019.set (bt33014.1 : Int).toNat (⟨(rd_T50 y33019 bt33014.1).f0, wrap64 ((wrap64 (((rd_T50 y33019 bt33014.1).f1) + bt33021.1)) - 1), (rd_T50 y33019 bt33014.1).f2, (rd_T50 y33019 bt33014.1).f3⟩ : S50)), t33005, wrap64 ((mx t33009 0) + bt33027.1))))))) else (none)) else (none))) = some (r1, r2, r3) := by rw [if_pos rfl] at H; exact H
        clear H
        have H := H1
        clear H1
        replace H := Option.bind_eq_some_iff.mp H
        obtain ⟨⟨t33014, t33015⟩, A160, H⟩ := H
        replace H : (if 0 ≤ t33014 then (if t33014 < (t33008.length : Int) then ((spec_reader_pick.f kj4 t33001 t33015 5).bind fun bt33017 => ((some (t33008.set (t33014 : Int).toNat (⟨wrap64 ((wrap64 (((rd_T50 t33008 t33014).f0) + bt33017.1)) - 2), (rd_T50 t33008 t33014).f1, (rd_T50 t33008 t33014).f2, (rd_T50 t33008 t33014).f3⟩ : S50) : List (S50))).bind fun y33019 => ((spec_reader_pick.f kj4 t33001 bt33017.2 3).bind fun bt33021 => ((spec_reader_one.f kj4 t33001 bt33021.2 (([0, 0, 0, 3, (-1)] : List Int))).bind fun bt33027 => (some ((y33019.set (t33014 : Int).toNat (⟨(rd_T50 y33019 t33014).f0, wrap64 ((wrap64 (((rd_T50 y33019 t33014).f1) + bt33021.1)) - 1), (rd_T50 y33019 t33014).f2, (rd_T50 y33019 t33014).f3⟩ : S50)), t33005, wrap64 ((mx t33009 0) + bt33027.1))))))) else (none)) else (none)) = some (r1, r2, r3) := H
        have A16 := Aside0.mk A160
        clear A160
        by_cases c17 : 0 ≤ t33014
        · rw [if_pos c17] at H
          have c17b0 : decide (0 ≤ t33014) = true := decide_eq_true c17
          clear c17
          by_cases c18 : t33014 < (t33008.length : Int)
          · rw [if_pos c18] at H
            have c18b0 : decide (t33014 < (t33008.length : Int)) = true := decide_eq_true c18
            clear c18
            replace H := Option.bind_eq_some_iff.mp H
            obtain ⟨⟨t33017, t33018⟩, A190, H⟩ := H
            replace H : ((some (t33008.set (t33014 : Int).toNat (⟨wrap64 ((wrap64 (((rd_T50 t33008 t33014).f0) + t33017)) - 2), (rd_T50 t33008 t33014).f1, (rd_T50 t33008 t33014).f2, (rd_T50 t33008 t33014).f3⟩ : S50) : List (S50))).bind fun y33019 => ((spec_reader_pick.f kj4 t33001 t33018 3).bind fun bt33021 => ((spec_reader_one.f kj4 t33001 bt33021.2 (([0, 0, 0, 3, (-1)] : List Int))).bind fun bt33027 => (some ((y33019.set (t33014 : Int).toNat (⟨(rd_T50 y33019 t33014).f0, wrap64 ((wrap64 (((rd_T50 y33019 t33014).f1) + bt33021.1)) - 1), (rd_T50 y33019 t33014).f2, (rd_T50 y33019 t33014).f3⟩ : S50)), t33005, wrap64 ((mx t33009 0) + bt33027.1)))))) = some (r1, r2, r3) := H
            have A19 := Aside0.mk A190
            clear A190
            obtain ⟨y33019, hy33019⟩ : ∃ y_ : List (S50), y_ = (t33008.set (t33014 : Int).toNat (⟨wrap64 ((wrap64 (((rd_T50 t33008 t33014).f0) + t33017)) - 2), (rd_T50 t33008 t33014).f1, (rd_T50 t33008 t33014).f2, (rd_T50 t33008 t33014).f3⟩ : S50)) := ⟨_, rfl⟩
            replace H : ((spec_reader_pick.f kj4 t33001 t33018 3).bind fun bt33021 => ((spec_reader_one.f kj4 t33001 bt33021.2 (([0, 0, 0, 3, (-1)] : List Int))).bind fun bt33027 => (some ((y33019.set (t33014 : Int).toNat (⟨(rd_T50 y33019 t33014).f0, wrap64 ((wrap64 (((rd_T50 y33019 t33014).f1) + bt33021.1)) - 1), (rd_T50 y33019 t33014).f2, (rd_T50 y33019 t33014).f3⟩ : S50)), t33005, wrap64 ((mx t33009 0) + bt33027.1))))) = some (r1, r2, r3) := by first | (rw [hy33019]; with_reducible exact H) | (have H2_ := (Option.bind_some _ _).symm.trans H; rw [hy33019]; with_reducible exact H2_) | (have H2_ := (Option.bind_some _ _).symm.trans H; with_reducible exact H2_) | with_reducible exact H | (rw [hy33019]; exact H) | exact H
            have Ny33019 := Aside0.mk hy33019
            clear hy33019
            replace H := Option.bind_eq_some_iff.mp H
            obtain ⟨⟨t33021, t33022⟩, A210, H⟩ := H
            replace H : ((spec_reader_one.f kj4 t33001 t33022 (([0, 0, 0, 3, (-1)] : List Int))).bind fun bt33027 => (some ((y33019.set (t33014 : Int).toNat (⟨(rd_T50 y33019 t33014).f0, wrap64 ((wrap64 (((rd_T50 y33019 t33014).f1) + t33021)) - 1), (rd_T50 y33019 t33014).f2, (rd_T50 y33019 t33014).f3⟩ : S50)), t33005, wrap64 ((mx t33009 0) + bt33027.1)))) = some (r1, r2, r3) := H
            have A21 := Aside0.mk A210
            clear A210
            obtain ⟨y33023, hy33023⟩ : ∃ y_ : List (S50), y_ = (y33019.set (t33014 : Int).toNat (⟨(rd_T50 y33019 t33014).f0, wrap64 ((wrap64 (((rd_T50 y33019 t33014).f1) + t33021)) - 1), (rd_T50 y33019 t33014).f2, (rd_T50 y33019 t33014).f3⟩ : S50)) := ⟨_, rfl⟩
            replace H : ((spec_reader_one.f kj4 t33001 t33022 (([0, 0, 0, 3, (-1)] : List Int))).bind fun bt33027 => (some (y33023, t33005, wrap64 ((mx t33009 0) + bt33027.1)))) = some (r1, r2, r3) := by first | (rw [hy33023]; with_reducible exact H) | (have H2_ := (Option.bind_some _ _).symm.trans H; rw [hy33023]; with_reducible exact H2_) | (have H2_ := (Option.bind_some _ _).symm.trans H; with_reducible exact H2_) | with_reducible exact H | (rw [hy33023]; exact H) | exact H
            have Ny33023 := Aside0.mk hy33023
            clear hy33023
            obtain ⟨ji23, hji23⟩ : ∃ j_ : Int, (mx t33009 0) = j_ := ⟨_, rfl⟩
            replace H : ((spec_reader_one.f kj4 t33001 t33022 (([0, 0, 0, 3, (-1)] : List Int))).bind fun bt33027 => (some (y33023, t33005, wrap64 ((ji23) + bt33027.1)))) = some (r1, r2, r3) := by first | (rw [hji23] at H; exact H) | (simp only [hji23] at H ⊢; exact H)
            (try rw [hji23] at A16)
            (try rw [hji23] at A19)
            (try rw [hji23] at A21)
            have hji23_ : (if t33009 < 0 then 0 else t33009) = ji23 := hji23
            obtain ⟨y33024, hy33024⟩ : ∃ y_ : List Int, y_ = (([0, 0, 0, 3, (-1)] : List Int)) := ⟨_, rfl⟩
            replace H : ((spec_reader_one.f kj4 t33001 t33022 y33024).bind fun bt33027 => (some (y33023, t33005, wrap64 ((ji23) + bt33027.1)))) = some (r1, r2, r3) := by first | (rw [hy33024]; with_reducible exact H) | (have H2_ := (Option.bind_some _ _).symm.trans H; rw [hy33024]; with_reducible exact H2_) | (have H2_ := (Option.bind_some _ _).symm.trans H; with_reducible exact H2_) | with_reducible exact H | (rw [hy33024]; exact H) | exact H
            have Ny33024 := Aside0.mk hy33024
            clear hy33024
            replace H := Option.bind_eq_some_iff.mp H
            obtain ⟨⟨t33027, t33028⟩, A240, H⟩ := H
            replace H : (some (y33023, t33005, wrap64 ((ji23) + t33027))) = some (r1, r2, r3) := H
            have A24 := Aside0.mk A240
            clear A240
            simp only [Option.some.injEq, Prod.mk.injEq] at H
            obtain ⟨rfl, rfl, rfl⟩ := H
            obtain ⟨Ao25, co25, eo25⟩ := Kd.R_slice HO_8.out
            subst eo25
            try go_wp2_with (first | ((with_reducible refine gate_callee (f := 61) rfl ?_); refine goesL_ (some 35) rfl rfl Try.func61 (by kernel_rfl) rfl #[.pointer (some ⟨g33003, 0, none⟩), .int .i64 (t33008.length : Int)] rfl (by (try simp only [List.map_toArray, List.map_cons, List.map_nil]); first | done | rfl | (simp only [List.length_drop, List.length_take]; rfl)) ?_; (with_reducible refine (spec_reader_pick.calls kj4 g33003 t33001 x33004001_4 (t33008.length : Int) t33014 t33015 w _ ?side1 ?side2 A16.out).mono ?_); (case side1 => repeat (first | (with_reducible first | exact HI33003.out | apply IsS107.alloc | apply IsS107.drewN | apply IsS107.drew | apply IsS107.set_1) | exact HI33003.out)); (case side2 => repeat (first | (with_reducible first | exact HB.out | apply below_alloc | apply pw_below_drewN | apply below_drew1 | refine below_set ?_ (IsS107.ge HI33003.out)) | exact HB.out)); rintro e w26 ⟨rfl, hi, hb, hk⟩; refine ⟨_, rfl, ?_⟩; have n0_ := Aside0.mk (Kd.R_mono (Kd.R_keep (IsS107.apart (show IsS107 w _ g33003 t33001 x33004001_4 from by repeat (first | (with_reducible first | exact HI33003.out | apply IsS107.alloc | apply IsS107.drewN | apply IsS107.drew | apply IsS107.set_1) | exact HI33003.out)) (by (with_reducible repeat (first | apply Kd.R_alloc | apply Kd.R_drewN | apply Kd.R_drew)); exact HO_8.out) (by decide)) hk (fun _ h => h.2)) (fun _ h => h.1)); have n1_ := Aside0.mk (hb); have n2_ := Aside0.mk (hi); clear HO_8; clear HB; clear HI33003; have HO_8 := n0_; have HB := n1_; have HI33003 := n2_; clear n0_ n1_ n2_; (try clear hb); (try clear hb2); (try clear hk); (try clear hi)))
            have n0_ := Aside0.mk (Kd.R_drew HO_8.out)
            have n1_ := Aside0.mk (IsS107.drew HI33003.out)
            have n2_ := Aside0.mk (below_drew1 HB.out)
            clear HO_8
            clear HI33003
            clear HB
            have HO_8 := n0_
            have HI33003 := n1_
            have HB := n2_
            clear n0_ n1_ n2_
            have p33016 : 0 ≤ (t33014 : Int) := of_decide_eq_true (by first | (with_reducible assumption) | assumption)
            have q33016 : t33014 < (t33008.length : Int) := of_decide_eq_true (by first | (with_reducible assumption) | assumption)
            obtain ⟨ad33016, e33016, hx33016_0, hx33016_1, hx33016_2, hx33016_3⟩ := at_T50 (Kd.R_reads' HO_8.out).2.2 t33014 p33016 q33016
            cases e33016
            replace p33016 := eq_true p33016
            replace q33016 := eq_true q33016
            refine start_ (n := 14) (S := fun w' => w'.cell? (ad33016.add ((t33014).toNat * 4)) = some (.int .i64 ((rd_T50 t33008 t33014).f0)) ∧ w'.cell? ⟨(ad33016.add ((t33014).toNat * 4)).block, (ad33016.add ((t33014).toNat * 4)).off + 1, none⟩ = some (.int .i64 ((rd_T50 t33008 t33014).f1)) ∧ w'.cell? ⟨(ad33016.add ((t33014).toNat * 4)).block, (ad33016.add ((t33014).toNat * 4)).off + 2, none⟩ = some (.int .i64 ((rd_T50 t33008 t33014).f2)) ∧ w'.cell? ⟨(ad33016.add ((t33014).toNat * 4)).block, (ad33016.add ((t33014).toNat * 4)).off + 3, none⟩ = some (.int .i64 ((rd_T50 t33008 t33014).f3))) (ds := [13]) #[false, false, false, false, false, false, false, false, false, false, false, false, false, false] (by kernel_rfl) rfl rfl ⟨hx33016_0, hx33016_1, hx33016_2, hx33016_3⟩ (fun hHeld => ?_); refine with_tabW spec_DrawValidPacking.tab6 spec_DrawValidPacking.bits6 (fun HT_ HW_ => ?_)
            generalize w26.drew = w27 at HO_8 HI33003 HB hx33016_0 hx33016_1 hx33016_2 hx33016_3 hHeld ⊢
            refine pure_ (i := 0) (N := some 36) (v := ?_) (a' := ?_) #[true, false, false, false, false, false, false, false, false, false, false, false, false, false] rfl rfl (any_of HT_.out (by kernel_rfl)) (fun _ _ _ h => h) (Or.inl ⟨by rfl, ?_⟩) ?_ ?_
            rotate_left
            · intro w'
              go_simp
              with_reducible rfl
            rotate_left
            · simp only [Act.put, List.setIfInBounds_toArray, List.set_cons_zero, List.set_cons_succ, i64_w, i32_w]
              rfl
            refine pure_ (i := 1) (N := some 37) (v := ?_) (a' := ?_) #[true, true, false, false, false, false, false, false, false, false, false, false, false, false] rfl rfl (any_of HT_.out (by kernel_rfl)) (fun _ _ _ h => h) (Or.inl ⟨by rfl, ?_⟩) ?_ ?_
            rotate_left
            · intro w'
              go_simp
              with_reducible rfl
            rotate_left
            · simp only [Act.put, List.setIfInBounds_toArray, List.set_cons_zero, List.set_cons_succ, i64_w, i32_w]
              rfl
            refine pure_ (i := 2) (N := some 38) (v := ?_) (a' := ?_) #[true, true, true, false, false, false, false, false, false, false, false, false, false, false] rfl rfl (any_of HT_.out (by kernel_rfl)) (fun _ _ _ h => h) (Or.inl ⟨by rfl, ?_⟩) ?_ ?_
            rotate_left
            · intro w'
              go_simp
              with_reducible rfl
            rotate_left
            · simp only [Act.put, List.setIfInBounds_toArray, List.set_cons_zero, List.set_cons_succ, i64_w, i32_w]
              rfl
            refine pure_ (i := 3) (N := some 39) (v := ?_) (a' := ?_) #[true, true, true, true, false, false, false, false, false, false, false, false, false, false] rfl rfl (any_of HT_.out (by kernel_rfl)) (fun _ _ _ h => h) (Or.inl ⟨by rfl, ?_⟩) ?_ ?_
            rotate_left
            · intro w'
              go_simp
              with_reducible rfl
            rotate_left
            · simp only [Act.put, List.setIfInBounds_toArray, List.set_cons_zero, List.set_cons_succ, i64_w, i32_w]
              rfl
            refine pure_ (i := 4) (N := some 40) (v := ?_) (a' := ?_) #[true, true, true, true, true, false, false, false, false, false, false, false, false, false] rfl rfl (any_of HT_.out (by kernel_rfl)) (fun _ _ _ h => h) (Or.inl ⟨by rfl, ?_⟩) ?_ ?_
            rotate_left
            · intro w'
              go_simp
              with_reducible rfl
            rotate_left
            · simp only [Act.put, List.setIfInBounds_toArray, List.set_cons_zero, List.set_cons_succ, i64_w, i32_w]
              rfl
            refine pure_ (i := 5) (N := some 41) (v := ?_) (a' := ?_) #[true, true, true, true, true, true, false, false, false, false, false, false, false, false] rfl rfl (any_of HT_.out (by kernel_rfl)) (fun _ _ _ h => h) (Or.inl ⟨by rfl, ?_⟩) ?_ ?_
            rotate_left
            · intro w'
              go_simp
              with_reducible rfl
            rotate_left
            · simp only [Act.put, List.setIfInBounds_toArray, List.set_cons_zero, List.set_cons_succ, i64_w, i32_w]
              rfl
            refine pure_ (i := 7) (N := some 43) (v := ?_) (a' := ?_) #[true, true, true, true, true, true, false, true, false, false, false, false, false, false] rfl rfl (any_of HT_.out (by kernel_rfl)) (fun _ _ _ h => h) (Or.inl ⟨by rfl, ?_⟩) ?_ ?_
            rotate_left
            · intro w'
              go_simp
              with_reducible rfl
            rotate_left
            · simp only [Act.put, List.setIfInBounds_toArray, List.set_cons_zero, List.set_cons_succ, i64_w, i32_w]
              rfl
            refine take_ (i := 6) (N := some 42) (v := ?_) (a' := ?_) #[true, true, true, true, true, true, true, true, false, false, false, false, false, false] rfl rfl (take_ofW HT_.out HW_.out (by kernel_rfl)) (fun _ _ _ h => h) (Or.inl ⟨by rfl, ?_⟩) hHeld ?_ ?_
            rotate_left
            · rintro w' ⟨s0, s1, s2, s3⟩
              go_simp
              with_reducible rfl
            rotate_left
            · simp only [Act.put, List.setIfInBounds_toArray, List.set_cons_zero, List.set_cons_succ, i64_w, i32_w]
              rfl
            refine one_ (i := 8) (N := some 44) #[true, true, true, true, true, true, true, true, true, false, false, false, false, false] rfl rfl (one_of HT_.out (by kernel_rfl)) (by decide) (fun K hK => ?_)
            refine goes_ Try.func61 (by kernel_rfl) rfl #[.pointer (some ⟨g33003, 0, none⟩), .int .i64 5] (by rfl) rfl rfl (by (try simp only [List.map_toArray, List.map_cons, List.map_nil]); first | done | rfl | (simp only [List.length_drop, List.length_take]; rfl)) ?_
            with_reducible refine (spec_reader_pick.calls kj4 g33003 t33001 t33015 5 t33017 t33018 w _ ?side1 ?side2 A19.out).mono ?_
            (case side1 => repeat (first | (with_reducible first | exact HI33003.out | apply IsS107.alloc | apply IsS107.drewN | apply IsS107.drew | apply IsS107.set_1) | exact HI33003.out))
            (case side2 => repeat (first | (with_reducible first | exact HB.out | apply below_alloc | apply pw_below_drewN | apply below_drew1 | refine below_set ?_ (IsS107.ge HI33003.out)) | exact HB.out))
            rintro e w28 ⟨rfl, hi, hb, hk⟩
            have HS0_ := keep_cell hk (hHeld.1) (by first | (rw [add_block]; exact Kd.own_blk (IsS107.own_ne HI33003.out HO_8.out (by decide))) | (show (Addr.add _ _).block ≠ _; rw [add_block]; exact Kd.own_blk (IsS107.own_ne HI33003.out HO_8.out (by decide))) | exact Kd.own_blk (IsS107.own_ne HI33003.out HO_8.out (by decide)) | (have z_ := Kd.own_blk (IsS107.own_ne HI33003.out HO_8.out (by decide)); exact z_))
            have HS1_ := keep_cell hk (hHeld.2.1) (by first | (rw [add_block]; exact Kd.own_blk (IsS107.own_ne HI33003.out HO_8.out (by decide))) | (show (Addr.add _ _).block ≠ _; rw [add_block]; exact Kd.own_blk (IsS107.own_ne HI33003.out HO_8.out (by decide))) | exact Kd.own_blk (IsS107.own_ne HI33003.out HO_8.out (by decide)) | (have z_ := Kd.own_blk (IsS107.own_ne HI33003.out HO_8.out (by decide)); exact z_))
            have HS2_ := keep_cell hk (hHeld.2.2.1) (by first | (rw [add_block]; exact Kd.own_blk (IsS107.own_ne HI33003.out HO_8.out (by decide))) | (show (Addr.add _ _).block ≠ _; rw [add_block]; exact Kd.own_blk (IsS107.own_ne HI33003.out HO_8.out (by decide))) | exact Kd.own_blk (IsS107.own_ne HI33003.out HO_8.out (by decide)) | (have z_ := Kd.own_blk (IsS107.own_ne HI33003.out HO_8.out (by decide)); exact z_))
            have HS3_ := keep_cell hk (hHeld.2.2.2) (by first | (rw [add_block]; exact Kd.own_blk (IsS107.own_ne HI33003.out HO_8.out (by decide))) | (show (Addr.add _ _).block ≠ _; rw [add_block]; exact Kd.own_blk (IsS107.own_ne HI33003.out HO_8.out (by decide))) | exact Kd.own_blk (IsS107.own_ne HI33003.out HO_8.out (by decide)) | (have z_ := Kd.own_blk (IsS107.own_ne HI33003.out HO_8.out (by decide)); exact z_))
            refine ⟨_, rfl, ?_⟩
            have n0_ := Aside0.mk (Kd.R_mono (Kd.R_keep (IsS107.apart (show IsS107 w _ g33003 t33001 t33015 from by repeat (first | (with_reducible first | exact HI33003.out | apply IsS107.alloc | apply IsS107.drewN | apply IsS107.drew | apply IsS107.set_1) | exact HI33003.out)) (by (with_reducible repeat (first | apply Kd.R_alloc | apply Kd.R_drewN | apply Kd.R_drew)); exact HO_8.out) (by decide)) hk (fun _ h => h.2)) (fun _ h => h.1))
            have n1_ := Aside0.mk (hb)
            have n2_ := Aside0.mk (hi)
            clear HO_8
            clear HB
            clear HI33003
            have HO_8 := n0_
            have HB := n1_
            have HI33003 := n2_
            clear n0_ n1_ n2_
            (try clear hb)
            (try clear hb2)
            (try clear hk)
            (try clear hi)
            have p20 : 0 ≤ (t33014 : Int) := of_decide_eq_true (by first | (with_reducible assumption) | assumption)
            have q20 : (t33014 : Int) < ((t33008.length : Int) : Int) := of_decide_eq_true (by first | (with_reducible assumption) | assumption)
            obtain ⟨go20, co20, eo20, gb20, gl20, cl20, HG20⟩ := Kd.R_form HO_8.out (by omega)
            (first | cases eo20 | (injection eo20 with ea_ en_ ec_; (first | subst ea_ | (injection ea_ with ea_; subst ea_)); subst ec_; clear en_))
            have GB20 := Aside0.mk gb20
            have GG20 := Aside0.mk HG20
            clear gb20 gl20 HG20
            (first | simp only [add_plain] at hx33016_0 | skip)
            (first | simp only [add_plain] at hx33016_1 | skip)
            (first | simp only [add_plain] at hx33016_2 | skip)
            (first | simp only [add_plain] at hx33016_3 | skip)
            obtain ⟨ce20, hcl20, hM20, hcc20, hfr20⟩ := Kd.R_elem HO_8.out z50 (t33014 : Int) p20 q20
            obtain rfl := k50_openM hM20
            have hx20_0 : World.cell? _ ⟨go20, (t33014 : Int).toNat * 4, none⟩ = some (.int .i64 ((rd_T50 t33008 t33014).f0)) := hcc20 0 _ rfl
            have hx20_1 : World.cell? _ ⟨go20, (t33014 : Int).toNat * 4 + 1, none⟩ = some (.int .i64 ((rd_T50 t33008 t33014).f1)) := hcc20 1 _ rfl
            have hx20_2 : World.cell? _ ⟨go20, (t33014 : Int).toNat * 4 + 2, none⟩ = some (.int .i64 ((rd_T50 t33008 t33014).f2)) := hcc20 2 _ rfl
            have hx20_3 : World.cell? _ ⟨go20, (t33014 : Int).toNat * 4 + 3, none⟩ = some (.int .i64 ((rd_T50 t33008 t33014).f3)) := hcc20 3 _ rfl
            have hf20_0 : World.frozen? _ ⟨go20, (t33014 : Int).toNat * 4, none⟩ = false := hfr20 0
            have hf20_1 : World.frozen? _ ⟨go20, (t33014 : Int).toNat * 4 + 1, none⟩ = false := hfr20 1
            have hf20_2 : World.frozen? _ ⟨go20, (t33014 : Int).toNat * 4 + 2, none⟩ = false := hfr20 2
            have hf20_3 : World.frozen? _ ⟨go20, (t33014 : Int).toNat * 4 + 3, none⟩ = false := hfr20 3
            clear hcl20 hcc20 hfr20 hM20
            replace p20 := eq_true p20
            replace q20 := eq_true q20
            have HN33003_go20 := Aside0.mk (show g33003 ≠ go20 from by have h_ := IsS107.own_ne HI33003.out HO_8.out (by decide); intro e_; exact h_ (by rw [e_]; rfl))
            obtain ⟨ce29, hcl29, hM29, hcc29, hfr29⟩ := Kd.R_elem HO_8.out z50 (t33014 : Int) (of_decide_eq_true (by first | (with_reducible assumption) | assumption)) (by have h_ : (t33014 : Int) < ((t33008.length : Int) : Int) := of_decide_eq_true (by first | (with_reducible assumption) | assumption); first | exact h_ | (have e_ := (Kd.R_reads' HO_8.out).1; omega) | simpa using h_)
            obtain rfl := k50_openM hM29
            have HP29 := (Kd.R_seg HO_8.out (t33014 : Int) (of_decide_eq_true (by first | (with_reducible assumption) | assumption)) (by have h_ : (t33014 : Int) < ((t33008.length : Int) : Int) := of_decide_eq_true (by first | (with_reducible assumption) | assumption); first | exact h_ | (have e_ := (Kd.R_reads' HO_8.out).1; omega) | simpa using h_) (seg := [.int .i64 (wrap64 ((wrap64 (((rd_T50 t33008 t33014).f0) + t33017)) - 2))]) (j := 0) hcl29 hcc29 (show 1 ≤ 4 from by decide) (x' := (⟨wrap64 ((wrap64 (((rd_T50 t33008 t33014).f0) + t33017)) - 2), (rd_T50 t33008 t33014).f1, (rd_T50 t33008 t33014).f2, (rd_T50 t33008 t33014).f3⟩ : S50)) (k50_mkM _ _ _ (⟨wrap64 ((wrap64 (((rd_T50 t33008 t33014).f0) + t33017)) - 2), (rd_T50 t33008 t33014).f1, (rd_T50 t33008 t33014).f2, (rd_T50 t33008 t33014).f3⟩ : S50) ) (fun _ hk => hk)).1
            rw [← Ny33019.out] at HP29
            have HQ29 := Aside0.mk HP29
            clear hcl29 hcc29 hfr29 hM29 HP29
            refine hK.out _ _ ⟨HS0_, HS1_, HS2_, HS3_⟩ (fun hHeld => ?_)
            clear hK K
            refine norm_ (a' := ?_) ?_ ?_
            rotate_left
            · show Act.put _ (some 44) _ = _
              simp only [Act.put, List.setIfInBounds_toArray, List.set_cons_zero, List.set_cons_succ, i64_w, i32_w]
              rfl
            refine pure_ (i := 9) (N := some 45) (v := ?_) (a' := ?_) #[true, true, true, true, true, true, true, true, true, true, false, false, false, false] rfl rfl (any_of HT_.out (by kernel_rfl)) (fun _ _ _ h => h) (Or.inl ⟨by rfl, ?_⟩) ?_ ?_
            rotate_left
            · intro w'
              go_simp
              with_reducible rfl
            rotate_left
            · simp only [Act.put, List.setIfInBounds_toArray, List.set_cons_zero, List.set_cons_succ, i64_w, i32_w]
              rfl
            refine pure_ (i := 10) (N := some 46) (v := ?_) (a' := ?_) #[true, true, true, true, true, true, true, true, true, true, true, false, false, false] rfl rfl (any_of HT_.out (by kernel_rfl)) (fun _ _ _ h => h) (Or.inl ⟨by rfl, ?_⟩) ?_ ?_
            rotate_left
            · intro w'
              go_simp
              with_reducible rfl
            rotate_left
            · simp only [Act.put, List.setIfInBounds_toArray, List.set_cons_zero, List.set_cons_succ, i64_w, i32_w]
              rfl
            refine pure_ (i := 11) (N := some 47) (v := ?_) (a' := ?_) #[true, true, true, true, true, true, true, true, true, true, true, true, false, false] rfl rfl (any_of HT_.out (by kernel_rfl)) (fun _ _ _ h => h) (Or.inl ⟨by rfl, ?_⟩) ?_ ?_
            rotate_left
            · intro w'
              go_simp
              with_reducible rfl
            rotate_left
            · simp only [Act.put, List.setIfInBounds_toArray, List.set_cons_zero, List.set_cons_succ, i64_w, i32_w]
              rfl
            refine pure_ (i := 12) (N := some 48) (v := ?_) (a' := ?_) #[true, true, true, true, true, true, true, true, true, true, true, true, true, false] rfl rfl (any_of HT_.out (by kernel_rfl)) (fun _ _ _ h => h) (Or.inl ⟨by rfl, ?_⟩) ?_ ?_
            rotate_left
            · intro w'
              go_simp
              with_reducible rfl
            rotate_left
            · simp only [Act.put, List.setIfInBounds_toArray, List.set_cons_zero, List.set_cons_succ, i64_w, i32_w]
              rfl
            refine last_ (i := 13) (N := none) #[true, true, true, true, true, true, true, true, true, true, true, true, true, true] rfl rfl (one_of HT_.out (by kernel_rfl)) (by decide) (fun K hK => ?_)
            refine skip_ (w1 := ?_) (by rfl) rfl ?_ ?_
            rotate_left
            · go_simp
              rfl
            refine hK.out _ _ ?_
            clear hK K
            refine done_ (done_of HT_.out (by kernel_rfl)) ?_
            try go_wp2
            have n0_ : Aside0 (Kd.R k50 50 (w28.setCell ⟨go20, (t33014 : Int).toNat * 4, none⟩ (.int .i64 (wrap64 ((wrap64 (((rd_T50 t33008 t33014).f0) + t33017)) - 2)))) w.heap.size (fun _ => True) (.slice (some ⟨go20, 0, none⟩) t33008.length co25) y33019) := ⟨by (with_reducible repeat (first | apply Kd.R_alloc | apply Kd.R_drewN | apply Kd.R_drew)); exact HQ29.out⟩
            have n1_ : Aside0 (IsS107 w (w28.setCell ⟨go20, (t33014 : Int).toNat * 4, none⟩ (.int .i64 (wrap64 ((wrap64 (((rd_T50 t33008 t33014).f0) + t33017)) - 2)))) g33003 t33001 t33018) := ⟨by repeat (first | (with_reducible first | exact HI33003.out | apply IsS107.alloc | apply IsS107.drewN | apply IsS107.drew | apply IsS107.set_1 | refine IsS107.far ?_ HN33003_go20.out _) | exact HI33003.out)⟩
            have n2_ : Aside0 (Below w.heap.size w (w28.setCell ⟨go20, (t33014 : Int).toNat * 4, none⟩ (.int .i64 (wrap64 ((wrap64 (((rd_T50 t33008 t33014).f0) + t33017)) - 2))))) := ⟨by repeat (first | (with_reducible first | exact HB.out | apply below_alloc | apply pw_below_drewN | apply below_drew1 | refine below_set ?_ GB20.out | refine below_set ?_ (IsS107.ge HI33003.out)) | exact HB.out)⟩
            (try clear HO_8)
            (try clear HI33003)
            (try clear HB)
            generalize (w28.setCell ⟨go20, (t33014 : Int).toNat * 4, none⟩ (.int .i64 (wrap64 ((wrap64 (((rd_T50 t33008 t33014).f0) + t33017)) - 2)))) = w30 at n0_ n1_ n2_ ⊢
            have HO_8 := n0_
            have HI33003 := n1_
            have HB := n2_
            clear n0_ n1_ n2_
            have n0_ := Aside0.mk (Kd.R_drew HO_8.out)
            have n1_ := Aside0.mk (IsS107.drew HI33003.out)
            have n2_ := Aside0.mk (below_drew1 HB.out)
            clear HO_8
            clear HI33003
            clear HB
            have HO_8 := n0_
            have HI33003 := n1_
            have HB := n2_
            clear n0_ n1_ n2_
            have p33020 : 0 ≤ (t33014 : Int) := of_decide_eq_true (by first | (with_reducible assumption) | assumption)
            have q33020 : t33014 < (y33019.length : Int) := (by have h_ : (t33014 : Int) < ((t33008.length : Int) : Int) := of_decide_eq_true (by first | (with_reducible assumption) | assumption); first | (have e_ := (Kd.R_reads' HO_8.out).1; omega) | simpa only [Ny33019.out, List.length_set] using h_)
            have ql33020 : ((t33014 : Int) < ((t33008.length : Int) : Int)) = True := eq_true (of_decide_eq_true (by first | (with_reducible assumption) | assumption))
            obtain ⟨ad33020, e33020, hx33020_0, hx33020_1, hx33020_2, hx33020_3⟩ := at_T50 (Kd.R_reads' HO_8.out).2.2 t33014 p33020 q33020
            obtain rfl : (⟨go20, 0, none⟩ : Addr) = ad33020 := (by injection e33020)
            (first | simp only [add_plain] at hx33020_0 | simp only [add_at] at hx33020_0 | simp only [Addr.add, Nat.zero_add] at hx33020_0 | skip)
            (first | simp only [add_plain] at hx33020_1 | simp only [add_at] at hx33020_1 | simp only [Addr.add, Nat.zero_add] at hx33020_1 | skip)
            (first | simp only [add_plain] at hx33020_2 | simp only [add_at] at hx33020_2 | simp only [Addr.add, Nat.zero_add] at hx33020_2 | skip)
            (first | simp only [add_plain] at hx33020_3 | simp only [add_at] at hx33020_3 | simp only [Addr.add, Nat.zero_add] at hx33020_3 | skip)
            replace p33020 := eq_true p33020
            replace q33020 := eq_true q33020
            refine start_ (n := 14) (S := fun w' => w'.cell? ⟨go20, (t33014).toNat * 4, none⟩ = some (.int .i64 ((rd_T50 y33019 t33014).f0)) ∧ w'.cell? ⟨go20, (t33014).toNat * 4 + 1, none⟩ = some (.int .i64 ((rd_T50 y33019 t33014).f1)) ∧ w'.cell? ⟨go20, (t33014).toNat * 4 + 2, none⟩ = some (.int .i64 ((rd_T50 y33019 t33014).f2)) ∧ w'.cell? ⟨go20, (t33014).toNat * 4 + 3, none⟩ = some (.int .i64 ((rd_T50 y33019 t33014).f3))) (ds := [13]) #[false, false, false, false, false, false, false, false, false, false, false, false, false, false] (by kernel_rfl) rfl rfl ⟨hx33020_0, hx33020_1, hx33020_2, hx33020_3⟩ (fun hHeld => ?_); refine with_tabW spec_DrawValidPacking.tab7 spec_DrawValidPacking.bits7 (fun HT_ HW_ => ?_)
            generalize w30.drew = w31 at HO_8 HI33003 HB HQ29 hx33020_0 hx33020_1 hx33020_2 hx33020_3 hHeld ⊢
            refine pure_ (i := 0) (N := some 49) (v := ?_) (a' := ?_) #[true, false, false, false, false, false, false, false, false, false, false, false, false, false] rfl rfl (any_of HT_.out (by kernel_rfl)) (fun _ _ _ h => h) (Or.inl ⟨by rfl, ?_⟩) ?_ ?_
            rotate_left
            · intro w'
              go_simp
              with_reducible rfl
            rotate_left
            · simp only [Act.put, List.setIfInBounds_toArray, List.set_cons_zero, List.set_cons_succ, i64_w, i32_w]
              rfl
            refine pure_ (i := 1) (N := some 50) (v := ?_) (a' := ?_) #[true, true, false, false, false, false, false, false, false, false, false, false, false, false] rfl rfl (any_of HT_.out (by kernel_rfl)) (fun _ _ _ h => h) (Or.inl ⟨by rfl, ?_⟩) ?_ ?_
            rotate_left
            · intro w'
              go_simp
              with_reducible rfl
            rotate_left
            · simp only [Act.put, List.setIfInBounds_toArray, List.set_cons_zero, List.set_cons_succ, i64_w, i32_w]
              rfl
            refine pure_ (i := 2) (N := some 51) (v := ?_) (a' := ?_) #[true, true, true, false, false, false, false, false, false, false, false, false, false, false] rfl rfl (any_of HT_.out (by kernel_rfl)) (fun _ _ _ h => h) (Or.inl ⟨by rfl, ?_⟩) ?_ ?_
            rotate_left
            · intro w'
              go_simp
              with_reducible rfl
            rotate_left
            · simp only [Act.put, List.setIfInBounds_toArray, List.set_cons_zero, List.set_cons_succ, i64_w, i32_w]
              rfl
            refine pure_ (i := 3) (N := some 52) (v := ?_) (a' := ?_) #[true, true, true, true, false, false, false, false, false, false, false, false, false, false] rfl rfl (any_of HT_.out (by kernel_rfl)) (fun _ _ _ h => h) (Or.inl ⟨by rfl, ?_⟩) ?_ ?_
            rotate_left
            · intro w'
              go_simp
              with_reducible rfl
            rotate_left
            · simp only [Act.put, List.setIfInBounds_toArray, List.set_cons_zero, List.set_cons_succ, i64_w, i32_w]
              rfl
            refine pure_ (i := 4) (N := some 53) (v := ?_) (a' := ?_) #[true, true, true, true, true, false, false, false, false, false, false, false, false, false] rfl rfl (any_of HT_.out (by kernel_rfl)) (fun _ _ _ h => h) (Or.inl ⟨by rfl, ?_⟩) ?_ ?_
            rotate_left
            · intro w'
              go_simp
              with_reducible rfl
            rotate_left
            · simp only [Act.put, List.setIfInBounds_toArray, List.set_cons_zero, List.set_cons_succ, i64_w, i32_w]
              rfl
            refine pure_ (i := 5) (N := some 54) (v := ?_) (a' := ?_) #[true, true, true, true, true, true, false, false, false, false, false, false, false, false] rfl rfl (any_of HT_.out (by kernel_rfl)) (fun _ _ _ h => h) (Or.inl ⟨by rfl, ?_⟩) ?_ ?_
            rotate_left
            · intro w'
              go_simp
              with_reducible rfl
            rotate_left
            · simp only [Act.put, List.setIfInBounds_toArray, List.set_cons_zero, List.set_cons_succ, i64_w, i32_w]
              rfl
            refine pure_ (i := 7) (N := some 56) (v := ?_) (a' := ?_) #[true, true, true, true, true, true, false, true, false, false, false, false, false, false] rfl rfl (any_of HT_.out (by kernel_rfl)) (fun _ _ _ h => h) (Or.inl ⟨by rfl, ?_⟩) ?_ ?_
            rotate_left
            · intro w'
              go_simp
              with_reducible rfl
            rotate_left
            · simp only [Act.put, List.setIfInBounds_toArray, List.set_cons_zero, List.set_cons_succ, i64_w, i32_w]
              rfl
            refine take_ (i := 6) (N := some 55) (v := ?_) (a' := ?_) #[true, true, true, true, true, true, true, true, false, false, false, false, false, false] rfl rfl (take_ofW HT_.out HW_.out (by kernel_rfl)) (fun _ _ _ h => h) (Or.inl ⟨by rfl, ?_⟩) hHeld ?_ ?_
            rotate_left
            · rintro w' ⟨s0, s1, s2, s3⟩
              go_simp
              with_reducible rfl
            rotate_left
            · simp only [Act.put, List.setIfInBounds_toArray, List.set_cons_zero, List.set_cons_succ, i64_w, i32_w]
              rfl
            refine one_ (i := 8) (N := some 57) #[true, true, true, true, true, true, true, true, true, false, false, false, false, false] rfl rfl (one_of HT_.out (by kernel_rfl)) (by decide) (fun K hK => ?_)
            refine goes_ Try.func61 (by kernel_rfl) rfl #[.pointer (some ⟨g33003, 0, none⟩), .int .i64 3] (by rfl) rfl rfl (by (try simp only [List.map_toArray, List.map_cons, List.map_nil]); first | done | rfl | (simp only [List.length_drop, List.length_take]; rfl)) ?_
            with_reducible refine (spec_reader_pick.calls kj4 g33003 t33001 t33018 3 t33021 t33022 w _ ?side1 ?side2 A21.out).mono ?_
            (case side1 => repeat (first | (with_reducible first | exact HI33003.out | apply IsS107.alloc | apply IsS107.drewN | apply IsS107.drew | apply IsS107.set_1) | exact HI33003.out))
            (case side2 => repeat (first | (with_reducible first | exact HB.out | apply below_alloc | apply pw_below_drewN | apply below_drew1 | refine below_set ?_ (IsS107.ge HI33003.out)) | exact HB.out))
            rintro e w32 ⟨rfl, hi, hb, hk⟩
            have HS0_ := keep_cell hk (hHeld.1) (by first | (rw [add_block]; exact Kd.own_blk (IsS107.own_ne HI33003.out HO_8.out (by decide))) | (show (Addr.add _ _).block ≠ _; rw [add_block]; exact Kd.own_blk (IsS107.own_ne HI33003.out HO_8.out (by decide))) | exact Kd.own_blk (IsS107.own_ne HI33003.out HO_8.out (by decide)) | (have z_ := Kd.own_blk (IsS107.own_ne HI33003.out HO_8.out (by decide)); exact z_))
            have HS1_ := keep_cell hk (hHeld.2.1) (by first | (rw [add_block]; exact Kd.own_blk (IsS107.own_ne HI33003.out HO_8.out (by decide))) | (show (Addr.add _ _).block ≠ _; rw [add_block]; exact Kd.own_blk (IsS107.own_ne HI33003.out HO_8.out (by decide))) | exact Kd.own_blk (IsS107.own_ne HI33003.out HO_8.out (by decide)) | (have z_ := Kd.own_blk (IsS107.own_ne HI33003.out HO_8.out (by decide)); exact z_))
            have HS2_ := keep_cell hk (hHeld.2.2.1) (by first | (rw [add_block]; exact Kd.own_blk (IsS107.own_ne HI33003.out HO_8.out (by decide))) | (show (Addr.add _ _).block ≠ _; rw [add_block]; exact Kd.own_blk (IsS107.own_ne HI33003.out HO_8.out (by decide))) | exact Kd.own_blk (IsS107.own_ne HI33003.out HO_8.out (by decide)) | (have z_ := Kd.own_blk (IsS107.own_ne HI33003.out HO_8.out (by decide)); exact z_))
            have HS3_ := keep_cell hk (hHeld.2.2.2) (by first | (rw [add_block]; exact Kd.own_blk (IsS107.own_ne HI33003.out HO_8.out (by decide))) | (show (Addr.add _ _).block ≠ _; rw [add_block]; exact Kd.own_blk (IsS107.own_ne HI33003.out HO_8.out (by decide))) | exact Kd.own_blk (IsS107.own_ne HI33003.out HO_8.out (by decide)) | (have z_ := Kd.own_blk (IsS107.own_ne HI33003.out HO_8.out (by decide)); exact z_))
            refine ⟨_, rfl, ?_⟩
            have n0_ := Aside0.mk (Kd.R_mono (Kd.R_keep (IsS107.apart (show IsS107 w _ g33003 t33001 t33018 from by repeat (first | (with_reducible first | exact HI33003.out | apply IsS107.alloc | apply IsS107.drewN | apply IsS107.drew | apply IsS107.set_1) | exact HI33003.out)) (by (with_reducible repeat (first | apply Kd.R_alloc | apply Kd.R_drewN | apply Kd.R_drew)); exact HO_8.out) (by decide)) hk (fun _ h => h.2)) (fun _ h => h.1))
            have n1_ := Aside0.mk (hb)
            have n2_ := Aside0.mk (hi)
            clear HO_8
            clear HB
            clear HI33003
            have HO_8 := n0_
            have HB := n1_
            have HI33003 := n2_
            clear n0_ n1_ n2_
            (try clear hb)
            (try clear hb2)
            (try clear hk)
            (try clear hi)
            have p22 : 0 ≤ (t33014 : Int) := of_decide_eq_true (by first | (with_reducible assumption) | assumption)
            have q22 : (t33014 : Int) < ((t33008.length : Int) : Int) := of_decide_eq_true (by first | (with_reducible assumption) | assumption)
            obtain ⟨ce22, hcl22, hM22, hcc22, hfr22⟩ := Kd.R_elem HO_8.out z50 (t33014 : Int) p22 q22
            obtain rfl := k50_openM hM22
            have hx22_0 : World.cell? _ ⟨go20, (t33014 : Int).toNat * 4, none⟩ = some (.int .i64 ((rd_T50 y33019 t33014).f0)) := hcc22 0 _ rfl
            have hx22_1 : World.cell? _ ⟨go20, (t33014 : Int).toNat * 4 + 1, none⟩ = some (.int .i64 ((rd_T50 y33019 t33014).f1)) := hcc22 1 _ rfl
            have hx22_2 : World.cell? _ ⟨go20, (t33014 : Int).toNat * 4 + 2, none⟩ = some (.int .i64 ((rd_T50 y33019 t33014).f2)) := hcc22 2 _ rfl
            have hx22_3 : World.cell? _ ⟨go20, (t33014 : Int).toNat * 4 + 3, none⟩ = some (.int .i64 ((rd_T50 y33019 t33014).f3)) := hcc22 3 _ rfl
            have hf22_0 : World.frozen? _ ⟨go20, (t33014 : Int).toNat * 4, none⟩ = false := hfr22 0
            have hf22_1 : World.frozen? _ ⟨go20, (t33014 : Int).toNat * 4 + 1, none⟩ = false := hfr22 1
            have hf22_2 : World.frozen? _ ⟨go20, (t33014 : Int).toNat * 4 + 2, none⟩ = false := hfr22 2
            have hf22_3 : World.frozen? _ ⟨go20, (t33014 : Int).toNat * 4 + 3, none⟩ = false := hfr22 3
            clear hcl22 hcc22 hfr22 hM22
            replace p22 := eq_true p22
            replace q22 := eq_true q22
            have HN33003_go20 := Aside0.mk (show g33003 ≠ go20 from by have h_ := IsS107.own_ne HI33003.out HO_8.out (by decide); intro e_; exact h_ (by rw [e_]; rfl))
            obtain ⟨ce33, hcl33, hM33, hcc33, hfr33⟩ := Kd.R_elem HO_8.out z50 (t33014 : Int) (of_decide_eq_true (by first | (with_reducible assumption) | assumption)) (by have h_ : (t33014 : Int) < ((t33008.length : Int) : Int) := of_decide_eq_true (by first | (with_reducible assumption) | assumption); first | exact h_ | (have e_ := (Kd.R_reads' HO_8.out).1; omega) | simpa using h_)
            obtain rfl := k50_openM hM33
            have HP33 := (Kd.R_seg HO_8.out (t33014 : Int) (of_decide_eq_true (by first | (with_reducible assumption) | assumption)) (by have h_ : (t33014 : Int) < ((t33008.length : Int) : Int) := of_decide_eq_true (by first | (with_reducible assumption) | assumption); first | exact h_ | (have e_ := (Kd.R_reads' HO_8.out).1; omega) | simpa using h_) (seg := [.int .i64 (wrap64 ((wrap64 (((rd_T50 y33019 t33014).f1) + t33021)) - 1))]) (j := 1) hcl33 hcc33 (show 2 ≤ 4 from by decide) (x' := (⟨(rd_T50 y33019 t33014).f0, wrap64 ((wrap64 (((rd_T50 y33019 t33014).f1) + t33021)) - 1), (rd_T50 y33019 t33014).f2, (rd_T50 y33019 t33014).f3⟩ : S50)) (k50_mkM _ _ _ (⟨(rd_T50 y33019 t33014).f0, wrap64 ((wrap64 (((rd_T50 y33019 t33014).f1) + t33021)) - 1), (rd_T50 y33019 t33014).f2, (rd_T50 y33019 t33014).f3⟩ : S50) ) (fun _ hk => hk)).1
            rw [← Ny33023.out] at HP33
            have HQ33 := Aside0.mk HP33
            clear hcl33 hcc33 hfr33 hM33 HP33
            refine hK.out _ _ ⟨HS0_, HS1_, HS2_, HS3_⟩ (fun hHeld => ?_)
            clear hK K
            refine norm_ (a' := ?_) ?_ ?_
            rotate_left
            · show Act.put _ (some 57) _ = _
              simp only [Act.put, List.setIfInBounds_toArray, List.set_cons_zero, List.set_cons_succ, i64_w, i32_w]
              rfl
            refine pure_ (i := 9) (N := some 58) (v := ?_) (a' := ?_) #[true, true, true, true, true, true, true, true, true, true, false, false, false, false] rfl rfl (any_of HT_.out (by kernel_rfl)) (fun _ _ _ h => h) (Or.inl ⟨by rfl, ?_⟩) ?_ ?_
            rotate_left
            · intro w'
              go_simp
              with_reducible rfl
            rotate_left
            · simp only [Act.put, List.setIfInBounds_toArray, List.set_cons_zero, List.set_cons_succ, i64_w, i32_w]
              rfl
            refine pure_ (i := 10) (N := some 59) (v := ?_) (a' := ?_) #[true, true, true, true, true, true, true, true, true, true, true, false, false, false] rfl rfl (any_of HT_.out (by kernel_rfl)) (fun _ _ _ h => h) (Or.inl ⟨by rfl, ?_⟩) ?_ ?_
            rotate_left
            · intro w'
              go_simp
              with_reducible rfl
            rotate_left
            · simp only [Act.put, List.setIfInBounds_toArray, List.set_cons_zero, List.set_cons_succ, i64_w, i32_w]
              rfl
            refine pure_ (i := 11) (N := some 60) (v := ?_) (a' := ?_) #[true, true, true, true, true, true, true, true, true, true, true, true, false, false] rfl rfl (any_of HT_.out (by kernel_rfl)) (fun _ _ _ h => h) (Or.inl ⟨by rfl, ?_⟩) ?_ ?_
            rotate_left
            · intro w'
              go_simp
              with_reducible rfl
            rotate_left
            · simp only [Act.put, List.setIfInBounds_toArray, List.set_cons_zero, List.set_cons_succ, i64_w, i32_w]
              rfl
            refine pure_ (i := 12) (N := some 61) (v := ?_) (a' := ?_) #[true, true, true, true, true, true, true, true, true, true, true, true, true, false] rfl rfl (any_of HT_.out (by kernel_rfl)) (fun _ _ _ h => h) (Or.inl ⟨by rfl, ?_⟩) ?_ ?_
            rotate_left
            · intro w'
              go_simp
              with_reducible rfl
            rotate_left
            · simp only [Act.put, List.setIfInBounds_toArray, List.set_cons_zero, List.set_cons_succ, i64_w, i32_w]
              rfl
            refine last_ (i := 13) (N := none) #[true, true, true, true, true, true, true, true, true, true, true, true, true, true] rfl rfl (one_of HT_.out (by kernel_rfl)) (by decide) (fun K hK => ?_)
            refine skip_ (w1 := ?_) (by rfl) rfl ?_ ?_
            rotate_left
            · go_simp
              rfl
            refine hK.out _ _ ?_
            clear hK K
            refine done_ (done_of HT_.out (by kernel_rfl)) ?_
            try go_wp2_with (first | ((with_reducible refine gate_dst (N := 67) rfl ?_); refine Kd.R_lit (Kd.int .i64) _ 3 ?hg (N := 67) ?hd (xs := ([0, 0, 0, 3, (-1)] : List Int)) (inner := [.int .i64 0, .int .i64 0, .int .i64 0, .int .i64 3, .int .i64 (-1)]) (ok := fun _ => True) (okp := fun _ => True) ?hr ?hp (fun _ hk => hk) trivial (Below.refl _ _) (Nat.le_refl _) (by simp) ?_; (case hd => rfl); (case hg => rfl); (case hr => first | (go_simp; done) | (go_simp; rfl)); (case hp => exact (Reps.one (show Kd.M (Kd.int .i64) _ _ _ 0 [.int .i64 0] from rfl) (Reps.one (show Kd.M (Kd.int .i64) _ _ _ 0 [.int .i64 0] from rfl) (Reps.one (show Kd.M (Kd.int .i64) _ _ _ 0 [.int .i64 0] from rfl) (Reps.one (show Kd.M (Kd.int .i64) _ _ _ 3 [.int .i64 3] from rfl) (Reps.one (show Kd.M (Kd.int .i64) _ _ _ (-1) [.int .i64 (-1)] from rfl) (Reps.none _ _))))))); intro v33025 w34 ho35 hb hg_ hnew_; clear hg_ hnew_; (first | rw [← Ny33024.out] at ho35 | (simp only [Int.reduceToNat] at ho35; rw [← Ny33024.out] at ho35)); have n0_ := Aside0.mk (Kd.R_below (by (with_reducible repeat (first | apply Kd.R_alloc | apply Kd.R_drewN | apply Kd.R_drew)); exact HQ33.out) hb); have n1_ := Aside0.mk (Kd.R_lower ho35 (below_size (by repeat (first | (with_reducible first | exact HB.out | apply below_alloc | apply pw_below_drewN | apply below_drew1 | refine below_set ?_ GB20.out | refine below_set ?_ (IsS107.ge HI33003.out)) | exact HB.out)))); have n2_ := Aside0.mk (IsS107.below (show IsS107 w (w32.setCell ⟨go20, (t33014 : Int).toNat * 4 + 1, none⟩ (.int .i64 (wrap64 ((wrap64 (((rd_T50 y33019 t33014).f1) + t33021)) - 1)))) g33003 t33001 t33022 from by repeat (first | (with_reducible first | exact HI33003.out | apply IsS107.alloc | apply IsS107.drewN | apply IsS107.drew | apply IsS107.set_1 | refine IsS107.far ?_ HN33003_go20.out _) | exact HI33003.out)) hb); have n3_ := Aside0.mk (below_step (by repeat (first | (with_reducible first | exact HB.out | apply below_alloc | apply pw_below_drewN | apply below_drew1 | refine below_set ?_ GB20.out | refine below_set ?_ (IsS107.ge HI33003.out)) | exact HB.out)) hb); clear HO_8; clear HI33003; clear HB; have HO_8 := n0_; have HO33026 := n1_; have HI33003 := n2_; have HB := n3_; clear n0_ n1_ n2_ n3_; clear hb ho35; obtain ⟨Ao36, co36, eo36⟩ := Kd.R_slice HO33026.out; subst eo36) | ((with_reducible refine gate_callee (f := 63) rfl ?_); refine goesL_ (some 68) rfl rfl Try.func63 (by kernel_rfl) rfl #[.pointer (some ⟨g33003, 0, none⟩), .slice Ao36 y33024.length co36] rfl (by (try simp only [List.map_toArray, List.map_cons, List.map_nil]); first | done | rfl | (simp only [List.length_drop, List.length_take]; rfl)) ?_; (with_reducible refine (spec_reader_one.calls kj4 g33003 t33001 t33022 _ _ y33024 t33027 t33028 w _ ?side1 ?side2 ?side3 ?side4 ?side5 A24.out).mono ?_); (case side1 => repeat (first | (with_reducible first | exact HI33003.out | apply IsS107.alloc | apply IsS107.drewN | apply IsS107.drew | apply IsS107.set_1) | exact HI33003.out)); (case side2 => repeat (first | (with_reducible first | exact HB.out | apply below_alloc | apply pw_below_drewN | apply below_drew1 | refine below_set ?_ (IsS107.ge HI33003.out)) | exact HB.out)); (case side3 => repeat (first | exact (Kd.R_reads' HO33026.out).2.2 | (with_reducible refine Kd.C_alloc ?_ _) | (with_reducible refine Kd.C_drewN ?_ _) | (with_reducible refine Kd.C_drew ?_))); (case side4 => exact (Kd.R_reads' HO33026.out).2.1); (case side5 => exact far_slice (IsS107.own_ne HI33003.out HO33026.out (by decide))); rintro e w37 ⟨rfl, hi, hb, hk⟩; refine ⟨_, rfl, ?_⟩; have n0_ := Aside0.mk (Kd.R_mono (Kd.R_keep (IsS107.apart (show IsS107 w _ g33003 t33001 t33022 from by repeat (first | (with_reducible first | exact HI33003.out | apply IsS107.alloc | apply IsS107.drewN | apply IsS107.drew | apply IsS107.set_1) | exact HI33003.out)) (by (with_reducible repeat (first | apply Kd.R_alloc | apply Kd.R_drewN | apply Kd.R_drew)); exact HO_8.out) (by decide)) hk (fun _ h => h.2)) (fun _ h => h.1)); have n1_ := Aside0.mk (Kd.R_mono (Kd.R_keep (IsS107.apart (show IsS107 w _ g33003 t33001 t33022 from by repeat (first | (with_reducible first | exact HI33003.out | apply IsS107.alloc | apply IsS107.drewN | apply IsS107.drew | apply IsS107.set_1) | exact HI33003.out)) (by (with_reducible repeat (first | apply Kd.R_alloc | apply Kd.R_drewN | apply Kd.R_drew)); exact HO33026.out) (by decide)) hk (fun _ h => h.2)) (fun _ h => h.1)); have n2_ := Aside0.mk (hb); have n3_ := Aside0.mk (hi); clear HO_8; clear HO33026; clear HB; clear HI33003; have HO_8 := n0_; have HO33026 := n1_; have HB := n2_; have HI33003 := n3_; clear n0_ n1_ n2_ n3_; (try clear hb); (try clear hb2); (try clear hk); (try clear hi)))
            go_ret3
            exact ⟨_, by first | rfl | (simp [errW_none, errW_some] <;> rfl) | (simp only [← hji23]; first | rfl | (simp [errW_none, errW_some] <;> rfl)) | (simp [*, errW_none, errW_some] <;> rfl), by (with_reducible repeat (first | apply Kd.R_alloc | apply Kd.R_drewN | apply Kd.R_drew)); exact HO_8.out, by repeat (first | (with_reducible first | exact HB.out | apply below_alloc | apply pw_below_drewN | apply below_drew1 | refine below_set ?_ (IsS107.ge HI33003.out)) | exact HB.out)⟩
          · rw [if_neg c18] at H
            exact absurd H (by simp)
        · rw [if_neg c17] at H
          exact absurd H (by simp)
      · replace c15 := Bool.eq_false_iff.mpr c15
        subst c15
        have H1 : ((spec_reader_one.f kj4 t33001 x33004001_4 (([0, 0, 0, 3, (-1)] : List Int))).bind fun bt33032 => (some (t33008, t33005, wrap64 ((mx t33009 0) + bt33032.1)))) = some (r1, r2, r3) := by rw [if_neg (show ¬ (false = true) by decide)] at H; exact H
        clear H
        have H := H1
        clear H1
        obtain ⟨ji38, hji38⟩ : ∃ j_ : Int, (mx t33009 0) = j_ := ⟨_, rfl⟩
        replace H : ((spec_reader_one.f kj4 t33001 x33004001_4 (([0, 0, 0, 3, (-1)] : List Int))).bind fun bt33032 => (some (t33008, t33005, wrap64 ((ji38) + bt33032.1)))) = some (r1, r2, r3) := by first | (rw [hji38] at H; exact H) | (simp only [hji38] at H ⊢; exact H)
        have hji38_ : (if t33009 < 0 then 0 else t33009) = ji38 := hji38
        obtain ⟨y33029, hy33029⟩ : ∃ y_ : List Int, y_ = (([0, 0, 0, 3, (-1)] : List Int)) := ⟨_, rfl⟩
        replace H : ((spec_reader_one.f kj4 t33001 x33004001_4 y33029).bind fun bt33032 => (some (t33008, t33005, wrap64 ((ji38) + bt33032.1)))) = some (r1, r2, r3) := by first | (rw [hy33029]; with_reducible exact H) | (have H2_ := (Option.bind_some _ _).symm.trans H; rw [hy33029]; with_reducible exact H2_) | (have H2_ := (Option.bind_some _ _).symm.trans H; with_reducible exact H2_) | with_reducible exact H | (rw [hy33029]; exact H) | exact H
        have Ny33029 := Aside0.mk hy33029
        clear hy33029
        replace H := Option.bind_eq_some_iff.mp H
        obtain ⟨⟨t33032, t33033⟩, A390, H⟩ := H
        replace H : (some (t33008, t33005, wrap64 ((ji38) + t33032))) = some (r1, r2, r3) := H
        have A39 := Aside0.mk A390
        clear A390
        simp only [Option.some.injEq, Prod.mk.injEq] at H
        obtain ⟨rfl, rfl, rfl⟩ := H
        go_wp2_with (first | ((with_reducible refine gate_dst (N := 67) rfl ?_); refine Kd.R_lit (Kd.int .i64) _ 3 ?hg (N := 67) ?hd (xs := ([0, 0, 0, 3, (-1)] : List Int)) (inner := [.int .i64 0, .int .i64 0, .int .i64 0, .int .i64 3, .int .i64 (-1)]) (ok := fun _ => True) (okp := fun _ => True) ?hr ?hp (fun _ hk => hk) trivial (Below.refl _ _) (Nat.le_refl _) (by simp) ?_; (case hd => rfl); (case hg => rfl); (case hr => first | (go_simp; done) | (go_simp; rfl)); (case hp => exact (Reps.one (show Kd.M (Kd.int .i64) _ _ _ 0 [.int .i64 0] from rfl) (Reps.one (show Kd.M (Kd.int .i64) _ _ _ 0 [.int .i64 0] from rfl) (Reps.one (show Kd.M (Kd.int .i64) _ _ _ 0 [.int .i64 0] from rfl) (Reps.one (show Kd.M (Kd.int .i64) _ _ _ 3 [.int .i64 3] from rfl) (Reps.one (show Kd.M (Kd.int .i64) _ _ _ (-1) [.int .i64 (-1)] from rfl) (Reps.none _ _))))))); intro v33030 w40 ho41 hb hg_ hnew_; clear hg_ hnew_; (first | rw [← Ny33029.out] at ho41 | (simp only [Int.reduceToNat] at ho41; rw [← Ny33029.out] at ho41)); have n0_ := Aside0.mk (Kd.R_below (by (with_reducible repeat (first | apply Kd.R_alloc | apply Kd.R_drewN | apply Kd.R_drew)); exact HO_8.out) hb); have n1_ := Aside0.mk (Kd.R_lower ho41 (below_size (by repeat (first | (with_reducible first | exact HB.out | apply below_alloc | apply pw_below_drewN | apply below_drew1 | refine below_set ?_ (IsS107.ge HI33003.out)) | exact HB.out)))); have n2_ := Aside0.mk (IsS107.below (by repeat (first | (with_reducible first | exact HI33003.out | apply IsS107.alloc | apply IsS107.drewN | apply IsS107.drew | apply IsS107.set_1) | exact HI33003.out)) hb); have n3_ := Aside0.mk (below_step (by repeat (first | (with_reducible first | exact HB.out | apply below_alloc | apply pw_below_drewN | apply below_drew1 | refine below_set ?_ (IsS107.ge HI33003.out)) | exact HB.out)) hb); clear HO_8; clear HI33003; clear HB; have HO_8 := n0_; have HO33031 := n1_; have HI33003 := n2_; have HB := n3_; clear n0_ n1_ n2_ n3_; clear hb ho41; obtain ⟨Ao42, co42, eo42⟩ := Kd.R_slice HO33031.out; subst eo42) | ((with_reducible refine gate_callee (f := 63) rfl ?_); refine goesL_ (some 68) rfl rfl Try.func63 (by kernel_rfl) rfl #[.pointer (some ⟨g33003, 0, none⟩), .slice Ao42 y33029.length co42] rfl (by (try simp only [List.map_toArray, List.map_cons, List.map_nil]); first | done | rfl | (simp only [List.length_drop, List.length_take]; rfl)) ?_; (with_reducible refine (spec_reader_one.calls kj4 g33003 t33001 x33004001_4 _ _ y33029 t33032 t33033 w _ ?side1 ?side2 ?side3 ?side4 ?side5 A39.out).mono ?_); (case side1 => repeat (first | (with_reducible first | exact HI33003.out | apply IsS107.alloc | apply IsS107.drewN | apply IsS107.drew | apply IsS107.set_1) | exact HI33003.out)); (case side2 => repeat (first | (with_reducible first | exact HB.out | apply below_alloc | apply pw_below_drewN | apply below_drew1 | refine below_set ?_ (IsS107.ge HI33003.out)) | exact HB.out)); (case side3 => repeat (first | exact (Kd.R_reads' HO33031.out).2.2 | (with_reducible refine Kd.C_alloc ?_ _) | (with_reducible refine Kd.C_drewN ?_ _) | (with_reducible refine Kd.C_drew ?_))); (case side4 => exact (Kd.R_reads' HO33031.out).2.1); (case side5 => exact far_slice (IsS107.own_ne HI33003.out HO33031.out (by decide))); rintro e w43 ⟨rfl, hi, hb, hk⟩; refine ⟨_, rfl, ?_⟩; have n0_ := Aside0.mk (Kd.R_mono (Kd.R_keep (IsS107.apart (show IsS107 w _ g33003 t33001 x33004001_4 from by repeat (first | (with_reducible first | exact HI33003.out | apply IsS107.alloc | apply IsS107.drewN | apply IsS107.drew | apply IsS107.set_1) | exact HI33003.out)) (by (with_reducible repeat (first | apply Kd.R_alloc | apply Kd.R_drewN | apply Kd.R_drew)); exact HO_8.out) (by decide)) hk (fun _ h => h.2)) (fun _ h => h.1)); have n1_ := Aside0.mk (Kd.R_mono (Kd.R_keep (IsS107.apart (show IsS107 w _ g33003 t33001 x33004001_4 from by repeat (first | (with_reducible first | exact HI33003.out | apply IsS107.alloc | apply IsS107.drewN | apply IsS107.drew | apply IsS107.set_1) | exact HI33003.out)) (by (with_reducible repeat (first | apply Kd.R_alloc | apply Kd.R_drewN | apply Kd.R_drew)); exact HO33031.out) (by decide)) hk (fun _ h => h.2)) (fun _ h => h.1)); have n2_ := Aside0.mk (hb); have n3_ := Aside0.mk (hi); clear HO_8; clear HO33031; clear HB; clear HI33003; have HO_8 := n0_; have HO33031 := n1_; have HB := n2_; have HI33003 := n3_; clear n0_ n1_ n2_ n3_; (try clear hb); (try clear hb2); (try clear hk); (try clear hi)))
        go_ret3
        exact ⟨_, by first | rfl | (simp [errW_none, errW_some] <;> rfl) | (simp only [← hji38]; first | rfl | (simp [errW_none, errW_some] <;> rfl)) | (simp [*, errW_none, errW_some] <;> rfl), by (with_reducible repeat (first | apply Kd.R_alloc | apply Kd.R_drewN | apply Kd.R_drew)); exact HO_8.out, by repeat (first | (with_reducible first | exact HB.out | apply below_alloc | apply pw_below_drewN | apply below_drew1 | refine below_set ?_ (IsS107.ge HI33003.out)) | exact HB.out)⟩


def laws_FnValidPackingTwice.j0 : Nat → List (S50) → Int → Int → Bool → Bool → Option (Bool)
  | 0, _, _, _, _, _ => none
  | k + 1, x3, x4, x5, x6, x34 => if x34 = true then ((spec_ValidPacking.f k x3 x4 x5).bind fun t13008 => (some (x6 == t13008))) else ((some (([] : List (S50)) : List (S50))).bind fun y13009 => (if y13009.length + x3.length < 4398046511104 then ((some (y13009 ++ x3 : List (S50))).bind fun y13012 => (if 0 < (x3.length : Int) then ((some (([(⟨(rd_T50 x3 0).f0, (rd_T50 x3 0).f1, (rd_T50 x3 0).f2, (rd_T50 x3 0).f3⟩ : S50)] : List (S50)) : List (S50))).bind fun y13016 => (if y13012.length + y13016.length < 4398046511104 then ((impl_ValidPacking.f k (y13012 ++ y13016) x4 x5).bind fun t13022 => (some (!t13022))) else (none))) else (none))) else (none)))
def laws_FnValidPackingTwice.f (k : Nat) (l0 : List Int) : Option (Bool) := if (l0.length : Int) > 1048576 then (some true) else ((spec_DrawValidPacking.f k l0).bind fun bt13001 => ((impl_ValidPacking.f k bt13001.1 bt13001.2.1 bt13001.2.2).bind fun t13006 => ((spec_ValidPacking.f k bt13001.1 bt13001.2.1 bt13001.2.2).bind fun t13007 => (if (t13006 != t13007) = true then (laws_FnValidPackingTwice.j0 k bt13001.1 bt13001.2.1 bt13001.2.2 t13006 true) else (if t13006 = true then (laws_FnValidPackingTwice.j0 k bt13001.1 bt13001.2.1 bt13001.2.2 t13006 ((bt13001.1.length : Int) == 0)) else (laws_FnValidPackingTwice.j0 k bt13001.1 bt13001.2.1 bt13001.2.2 t13006 true))))))
def laws_FnValidPackingTwice.T7 : Bool × List (List Nat × List Nat) := (true, [([], []), ([], []), ([0, 1], [0, 1]), ([], []), ([3], [3]), ([4], [4]), ([5], [5]), ([2, 6, 2], [2, 6]), ([], []), ([], []), ([7, 8, 9, 7], [7, 8, 9]), ([10], [10]), ([11, 10, 0, 1, 2, 3, 4, 5, 6, 7, 8, 9, 10, 11], [11])])
def laws_FnValidPackingTwice.B7 : List Nat := [0, 0, 3, 0, 8, 24, 56, 127, 0, 0, 1023, 2047, 4095]
theorem laws_FnValidPackingTwice.tab7 : rtab .any (opsOf Try.f12 7) = laws_FnValidPackingTwice.T7 := by kernel_rfl
theorem laws_FnValidPackingTwice.bits7 : waitsOk laws_FnValidPackingTwice.T7.2 laws_FnValidPackingTwice.B7 = true := by kernel_rfl
set_option maxHeartbeats 8000000 in
set_option maxRecDepth 100000 in
theorem laws_FnValidPackingTwice.calls (k : Nat) (A0 : Option Addr) (c0 : Nat) (l0 : List Int) (r : Bool) (w : World) (hr0 : Kd.C (Kd.int .u8) w A0 l0.length l0) (hc0 : l0.length ≤ c0) (h : laws_FnValidPackingTwice.f k l0 = some r) (hrt : r = true) :
    Calls Try.prog 12 #[.slice A0 l0.length c0] w fun e w' => e = .returned (.bool r) ∧ Below w.heap.size w w' := by
  have HRT := Aside0.mk hrt
  clear hrt
  have hu50 := Try.underlying50
  have HR0 := Aside0.mk hr0
  have HC0 := Aside0.mk hc0
  clear hr0 hc0
  have HB := Aside0.mk (Below.refl w.heap.size w)
  have H : (if (l0.length : Int) > 1048576 then (some true) else ((spec_DrawValidPacking.f k l0).bind fun bt13001 => ((impl_ValidPacking.f k bt13001.1 bt13001.2.1 bt13001.2.2).bind fun t13006 => ((spec_ValidPacking.f k bt13001.1 bt13001.2.1 bt13001.2.2).bind fun t13007 => (if (t13006 != t13007) = true then (laws_FnValidPackingTwice.j0 k bt13001.1 bt13001.2.1 bt13001.2.2 t13006 true) else (if t13006 = true then (laws_FnValidPackingTwice.j0 k bt13001.1 bt13001.2.1 bt13001.2.2 t13006 ((bt13001.1.length : Int) == 0)) else (laws_FnValidPackingTwice.j0 k bt13001.1 bt13001.2.1 bt13001.2.2 t13006 true))))))) = some r := h
  clear h
  by_cases c2 : (l0.length : Int) > 1048576
  · rw [if_pos c2] at H
    have c2b0 : decide (1048576 < (l0.length : Int)) = true := decide_eq_true c2
    have c2b1 : decide (1048576 < l0.length) = true := decide_eq_true (by omega)
    clear c2
    obtain rfl := Option.some.inj H
    go_enter Try.func12, Try.ntmps12
    go_wp2
    go_ret
    exact ⟨by first | rfl | (simp [errW_none, errW_some] <;> rfl) | (simp [*, errW_none, errW_some] <;> rfl), by repeat (first | (with_reducible first | exact HB.out | apply below_alloc | apply pw_below_drewN | apply below_drew1) | exact HB.out)⟩
  · rw [if_neg c2] at H
    have c2b0 : decide (1048576 < (l0.length : Int)) = false := decide_eq_false c2
    have c2b1 : decide (1048576 < l0.length) = false := decide_eq_false (by omega)
    clear c2
    replace H := Option.bind_eq_some_iff.mp H
    obtain ⟨⟨t13001, t13002, t13003⟩, A30, H⟩ := H
    replace H : ((impl_ValidPacking.f k t13001 t13002 t13003).bind fun t13006 => ((spec_ValidPacking.f k t13001 t13002 t13003).bind fun t13007 => (if (t13006 != t13007) = true then (laws_FnValidPackingTwice.j0 k t13001 t13002 t13003 t13006 true) else (if t13006 = true then (laws_FnValidPackingTwice.j0 k t13001 t13002 t13003 t13006 ((t13001.length : Int) == 0)) else (laws_FnValidPackingTwice.j0 k t13001 t13002 t13003 t13006 true))))) = some r := H
    have A3 := Aside0.mk A30
    clear A30
    replace H := Option.bind_eq_some_iff.mp H
    obtain ⟨t13006, A40, H⟩ := H
    replace H : ((spec_ValidPacking.f k t13001 t13002 t13003).bind fun t13007 => (if (t13006 != t13007) = true then (laws_FnValidPackingTwice.j0 k t13001 t13002 t13003 t13006 true) else (if t13006 = true then (laws_FnValidPackingTwice.j0 k t13001 t13002 t13003 t13006 ((t13001.length : Int) == 0)) else (laws_FnValidPackingTwice.j0 k t13001 t13002 t13003 t13006 true)))) = some r := H
    have A4 := Aside0.mk A40
    clear A40
    have HC5 := Aside0.mk H
    clear H
    go_enter Try.func12, Try.ntmps12
    go_upto_region 5 with (first | ((with_reducible refine gate_callee (f := 32) rfl ?_); refine goesL_ (some 12) rfl rfl Try.func32 (by kernel_rfl) rfl #[.slice A0 l0.length c0] rfl (by (try simp only [List.map_toArray, List.map_cons, List.map_nil]); first | done | rfl | (simp only [List.length_drop, List.length_take]; rfl)) ?_; (with_reducible refine (spec_DrawValidPacking.calls k _ _ l0 t13001 t13002 t13003 _ ?side1 ?side2 A3.out).mono ?_); (case side1 => repeat (first | exact HR0.out | (with_reducible refine Kd.C_alloc ?_ _) | (with_reducible refine Kd.C_drewN ?_ _) | (with_reducible refine Kd.C_drew ?_))); (case side2 => exact HC0.out); rintro e w6 ⟨v13004, rfl, ho0, hb⟩; refine ⟨_, rfl, ?_⟩; have n0_ := Aside0.mk (Kd.R_lower ho0 (below_size (by repeat (first | (with_reducible first | exact HB.out | apply below_alloc | apply pw_below_drewN | apply below_drew1) | exact HB.out)))); have n1_ := Aside0.mk (below_step (by repeat (first | (with_reducible first | exact HB.out | apply below_alloc | apply pw_below_drewN | apply below_drew1) | exact HB.out)) hb); clear HB; have HO13005 := n0_; have HB := n1_; clear n0_ n1_; (try clear hb); (try clear hb2); (try clear hk); (try clear hi); (try clear ho0); obtain ⟨Ao7, co7, eo7⟩ := Kd.R_slice HO13005.out; subst eo7) | ((with_reducible refine gate_callee (f := 22) rfl ?_); refine goesL_ (some 19) rfl rfl Try.func22 (by kernel_rfl) rfl #[.slice Ao7 t13001.length co7, .int .i64 t13002, .int .i64 t13003] rfl (by (try simp only [List.map_toArray, List.map_cons, List.map_nil]); first | done | rfl | (simp only [List.length_drop, List.length_take]; rfl)) ?_; (with_reducible refine (impl_ValidPacking.calls k _ _ t13001 t13002 t13003 t13006 _ ?side1 ?side2 A4.out).mono ?_); (case side1 => repeat (first | exact (Kd.R_reads' HO13005.out).2.2 | (with_reducible refine Kd.C_alloc ?_ _) | (with_reducible refine Kd.C_drewN ?_ _) | (with_reducible refine Kd.C_drew ?_))); (case side2 => exact (Kd.R_reads' HO13005.out).2.1); rintro e w8 ⟨rfl, hb⟩; refine ⟨_, rfl, ?_⟩; have n0_ := Aside0.mk (Kd.R_below (by (with_reducible repeat (first | apply Kd.R_alloc | apply Kd.R_drewN | apply Kd.R_drew)); exact HO13005.out) hb); have n1_ := Aside0.mk (below_step (by repeat (first | (with_reducible first | exact HB.out | apply below_alloc | apply pw_below_drewN | apply below_drew1) | exact HB.out)) hb); clear HO13005; clear HB; have HO13005 := n0_; have HB := n1_; clear n0_ n1_; (try clear hb); (try clear hb2); (try clear hk); (try clear hi)))
    (try simp only [Act.put, List.setIfInBounds_toArray, List.set_cons_zero, List.set_cons_succ])
    go_cut [34] (fun v34 wc => ∃ (kq : Nat) (x34_4 : Bool), v34 = .bool x34_4 ∧ Aside0 (laws_FnValidPackingTwice.j0 kq t13001 t13002 t13003 t13006 x34_4 = some r) ∧ Aside0 (kq ≤ k) ∧ Aside0 (Kd.R k50 50 wc w.heap.size (fun _ => True) (.slice Ao7 t13001.length co7) t13001) ∧ Aside0 (Below w.heap.size w wc))
    case first =>
      have H := HC5.out
      clear HC5
      replace H := Option.bind_eq_some_iff.mp H
      obtain ⟨t13007, A90, H⟩ := H
      replace H : (if (t13006 != t13007) = true then (laws_FnValidPackingTwice.j0 k t13001 t13002 t13003 t13006 true) else (if t13006 = true then (laws_FnValidPackingTwice.j0 k t13001 t13002 t13003 t13006 ((t13001.length : Int) == 0)) else (laws_FnValidPackingTwice.j0 k t13001 t13002 t13003 t13006 true))) = some r := H
      have A9 := Aside0.mk A90
      clear A90
      by_cases c10 : (t13006 != t13007) = true
      · rw [if_pos c10] at H
        have c10b0 : (t13006 != t13007) = true := c10
        (try (have c10b1 : decide (t13006 = t13007) = false := by simpa using c10))
        (try (have c10b2 : (t13006 == t13007) = false := by simpa using c10))
        (try (have c10b3 : ¬ (t13006 = t13007) := by simpa using c10))
        clear c10
        (first | rw [c10b0] | (simp only [i64_w, i32_w]; rw [c10b0]) | skip)
        have H' := Aside0.mk H
        clear H
        go_wp2_with (first | ((with_reducible refine gate_callee (f := 20) rfl ?_); refine goesL_ (some 24) rfl rfl Try.func20 (by kernel_rfl) rfl #[.slice Ao7 t13001.length co7, .int .i64 t13002, .int .i64 t13003] rfl (by (try simp only [List.map_toArray, List.map_cons, List.map_nil]); first | done | rfl | (simp only [List.length_drop, List.length_take]; rfl)) ?_; (with_reducible refine (spec_ValidPacking.calls k _ _ t13001 t13002 t13003 t13007 _ ?side1 ?side2 A9.out).mono ?_); (case side1 => repeat (first | exact (Kd.R_reads' HO13005.out).2.2 | (with_reducible refine Kd.C_alloc ?_ _) | (with_reducible refine Kd.C_drewN ?_ _) | (with_reducible refine Kd.C_drew ?_))); (case side2 => exact (Kd.R_reads' HO13005.out).2.1); rintro e w11 ⟨rfl, hb⟩; refine ⟨_, rfl, ?_⟩; have n0_ := Aside0.mk (Kd.R_below (by (with_reducible repeat (first | apply Kd.R_alloc | apply Kd.R_drewN | apply Kd.R_drew)); exact HO13005.out) hb); have n1_ := Aside0.mk (below_step (by repeat (first | (with_reducible first | exact HB.out | apply below_alloc | apply pw_below_drewN | apply below_drew1) | exact HB.out)) hb); clear HO13005; clear HB; have HO13005 := n0_; have HB := n1_; clear n0_ n1_; (try clear hb); (try clear hb2); (try clear hk); (try clear hi)))
        go_meet
        case rel => exact ⟨_, (true), (by first | rfl | (simp; done) | (simp [*]; done)), H', ⟨by first | omega | exact Nat.le_refl _⟩, ⟨by (with_reducible repeat (first | apply Kd.R_alloc | apply Kd.R_drewN | apply Kd.R_drew)); exact HO13005.out⟩, ⟨by repeat (first | (with_reducible first | exact HB.out | apply below_alloc | apply pw_below_drewN | apply below_drew1) | exact HB.out)⟩⟩
      · rw [if_neg c10] at H
        have c10b0 : (t13006 != t13007) = false := by simpa using c10
        (try (have c10b1 : decide (t13006 = t13007) = true := by simpa using c10))
        (try (have c10b2 : (t13006 == t13007) = true := by simpa using c10))
        clear c10
        (first | rw [c10b0] | (simp only [i64_w, i32_w]; rw [c10b0]) | skip)
        by_cases c12 : t13006 = true
        · subst c12
          have H1 : (laws_FnValidPackingTwice.j0 k t13001 t13002 t13003 true ((t13001.length : Int) == 0)) = some r := by rw [if_pos rfl] at H; exact H
          clear H
          have H := H1
          clear H1
          have H' := Aside0.mk H
          clear H
          go_wp2_with (first | ((with_reducible refine gate_callee (f := 20) rfl ?_); refine goesL_ (some 24) rfl rfl Try.func20 (by kernel_rfl) rfl #[.slice Ao7 t13001.length co7, .int .i64 t13002, .int .i64 t13003] rfl (by (try simp only [List.map_toArray, List.map_cons, List.map_nil]); first | done | rfl | (simp only [List.length_drop, List.length_take]; rfl)) ?_; (with_reducible refine (spec_ValidPacking.calls k _ _ t13001 t13002 t13003 t13007 _ ?side1 ?side2 A9.out).mono ?_); (case side1 => repeat (first | exact (Kd.R_reads' HO13005.out).2.2 | (with_reducible refine Kd.C_alloc ?_ _) | (with_reducible refine Kd.C_drewN ?_ _) | (with_reducible refine Kd.C_drew ?_))); (case side2 => exact (Kd.R_reads' HO13005.out).2.1); rintro e w13 ⟨rfl, hb⟩; refine ⟨_, rfl, ?_⟩; have n0_ := Aside0.mk (Kd.R_below (by (with_reducible repeat (first | apply Kd.R_alloc | apply Kd.R_drewN | apply Kd.R_drew)); exact HO13005.out) hb); have n1_ := Aside0.mk (below_step (by repeat (first | (with_reducible first | exact HB.out | apply below_alloc | apply pw_below_drewN | apply below_drew1) | exact HB.out)) hb); clear HO13005; clear HB; have HO13005 := n0_; have HB := n1_; clear n0_ n1_; (try clear hb); (try clear hb2); (try clear hk); (try clear hi)))
          go_meet
          case rel => exact ⟨_, (((t13001.length : Int) == 0)), (by first | rfl | (simp; done) | (simp [*]; done)), H', ⟨by first | omega | exact Nat.le_refl _⟩, ⟨by (with_reducible repeat (first | apply Kd.R_alloc | apply Kd.R_drewN | apply Kd.R_drew)); exact HO13005.out⟩, ⟨by repeat (first | (with_reducible first | exact HB.out | apply below_alloc | apply pw_below_drewN | apply below_drew1) | exact HB.out)⟩⟩
        · replace c12 := Bool.eq_false_iff.mpr c12
          subst c12
          have H1 : (laws_FnValidPackingTwice.j0 k t13001 t13002 t13003 false true) = some r := by rw [if_neg (show ¬ (false = true) by decide)] at H; exact H
          clear H
          have H := H1
          clear H1
          have H' := Aside0.mk H
          clear H
          go_wp2_with (first | ((with_reducible refine gate_callee (f := 20) rfl ?_); refine goesL_ (some 24) rfl rfl Try.func20 (by kernel_rfl) rfl #[.slice Ao7 t13001.length co7, .int .i64 t13002, .int .i64 t13003] rfl (by (try simp only [List.map_toArray, List.map_cons, List.map_nil]); first | done | rfl | (simp only [List.length_drop, List.length_take]; rfl)) ?_; (with_reducible refine (spec_ValidPacking.calls k _ _ t13001 t13002 t13003 t13007 _ ?side1 ?side2 A9.out).mono ?_); (case side1 => repeat (first | exact (Kd.R_reads' HO13005.out).2.2 | (with_reducible refine Kd.C_alloc ?_ _) | (with_reducible refine Kd.C_drewN ?_ _) | (with_reducible refine Kd.C_drew ?_))); (case side2 => exact (Kd.R_reads' HO13005.out).2.1); rintro e w14 ⟨rfl, hb⟩; refine ⟨_, rfl, ?_⟩; have n0_ := Aside0.mk (Kd.R_below (by (with_reducible repeat (first | apply Kd.R_alloc | apply Kd.R_drewN | apply Kd.R_drew)); exact HO13005.out) hb); have n1_ := Aside0.mk (below_step (by repeat (first | (with_reducible first | exact HB.out | apply below_alloc | apply pw_below_drewN | apply below_drew1) | exact HB.out)) hb); clear HO13005; clear HB; have HO13005 := n0_; have HB := n1_; clear n0_ n1_; (try clear hb); (try clear hb2); (try clear hk); (try clear hi)))
          go_meet
          case rel => exact ⟨_, (true), (by first | rfl | (simp; done) | (simp [*]; done)), H', ⟨by first | omega | exact Nat.le_refl _⟩, ⟨by (with_reducible repeat (first | apply Kd.R_alloc | apply Kd.R_drewN | apply Kd.R_drew)); exact HO13005.out⟩, ⟨by repeat (first | (with_reducible first | exact HB.out | apply below_alloc | apply pw_below_drewN | apply below_drew1) | exact HB.out)⟩⟩
    case rest =>
      clear HC5
      try clear c1
      try clear c2
      try clear c2b0
      try clear c2b1
      try clear p2
      try clear c3
      try clear c10
      try clear c10b0
      try clear c10b1
      try clear c10b2
      try clear c12
      obtain ⟨kq, x34_4, rfl, HA, HJ4, HO_3, HB⟩ := hcut
      cases kq with
      | zero => exact absurd HA.out (by simp [laws_FnValidPackingTwice.j0])
      | succ kj4 =>
        have H := HA.out
        clear HA
        simp only [laws_FnValidPackingTwice.j0] at H
        by_cases c15 : x34_4 = true
        · subst c15
          have H1 : ((spec_ValidPacking.f kj4 t13001 t13002 t13003).bind fun t13008 => (some (t13006 == t13008))) = some r := by rw [if_pos rfl] at H; exact H
          clear H
          have H := H1
          clear H1
          replace H := Option.bind_eq_some_iff.mp H
          obtain ⟨t13008, A160, H⟩ := H
          replace H : (some (t13006 == t13008)) = some r := H
          have A16 := Aside0.mk A160
          clear A160
          obtain rfl := Option.some.inj H
          go_wp2_with (first | ((with_reducible refine gate_callee (f := 20) rfl ?_); refine goesL_ (some 39) rfl rfl Try.func20 (by kernel_rfl) rfl #[.slice Ao7 t13001.length co7, .int .i64 t13002, .int .i64 t13003] rfl (by (try simp only [List.map_toArray, List.map_cons, List.map_nil]); first | done | rfl | (simp only [List.length_drop, List.length_take]; rfl)) ?_; (with_reducible refine (spec_ValidPacking.calls kj4 _ _ t13001 t13002 t13003 t13008 _ ?side1 ?side2 A16.out).mono ?_); (case side1 => repeat (first | exact (Kd.R_reads' HO_3.out).2.2 | (with_reducible refine Kd.C_alloc ?_ _) | (with_reducible refine Kd.C_drewN ?_ _) | (with_reducible refine Kd.C_drew ?_))); (case side2 => exact (Kd.R_reads' HO_3.out).2.1); rintro e w17 ⟨rfl, hb⟩; refine ⟨_, rfl, ?_⟩; have n0_ := Aside0.mk (Kd.R_below (by (with_reducible repeat (first | apply Kd.R_alloc | apply Kd.R_drewN | apply Kd.R_drew)); exact HO_3.out) hb); have n1_ := Aside0.mk (below_step (by repeat (first | (with_reducible first | exact HB.out | apply below_alloc | apply pw_below_drewN | apply below_drew1) | exact HB.out)) hb); clear HO_3; clear HB; have HO_3 := n0_; have HB := n1_; clear n0_ n1_; (try clear hb); (try clear hb2); (try clear hk); (try clear hi)))
          go_ret
          exact ⟨by first | rfl | (simp [errW_none, errW_some] <;> rfl) | (simp [*, errW_none, errW_some] <;> rfl), by repeat (first | (with_reducible first | exact HB.out | apply below_alloc | apply pw_below_drewN | apply below_drew1) | exact HB.out)⟩
        · replace c15 := Bool.eq_false_iff.mpr c15
          subst c15
          have H1 : ((some (([] : List (S50)) : List (S50))).bind fun y13009 => (if y13009.length + t13001.length < 4398046511104 then ((some (y13009 ++ t13001 : List (S50))).bind fun y13012 => (if 0 < (t13001.length : Int) then ((some (([(⟨(rd_T50 t13001 0).f0, (rd_T50 t13001 0).f1, (rd_T50 t13001 0).f2, (rd_T50 t13001 0).f3⟩ : S50)] : List (S50)) : List (S50))).bind fun y13016 => (if y13012.length + y13016.length < 4398046511104 then ((impl_ValidPacking.f kj4 (y13012 ++ y13016) t13002 t13003).bind fun t13022 => (some (!t13022))) else (none))) else (none))) else (none))) = some r := by rw [if_neg (show ¬ (false = true) by decide)] at H; exact H
          clear H
          have H := H1
          clear H1
          obtain ⟨y13009, hy13009⟩ : ∃ y_ : List (S50), y_ = (([] : List (S50))) := ⟨_, rfl⟩
          replace H : (if y13009.length + t13001.length < 4398046511104 then ((some (y13009 ++ t13001 : List (S50))).bind fun y13012 => (if 0 < (t13001.length : Int) then ((some (([(⟨(rd_T50 t13001 0).f0, (rd_T50 t13001 0).f1, (rd_T50 t13001 0).f2, (rd_T50 t13001 0).f3⟩ : S50)] : List (S50)) : List (S50))).bind fun y13016 => (if y13012.length + y13016.length < 4398046511104 then ((impl_ValidPacking.f kj4 (y13012 ++ y13016) t13002 t13003).bind fun t13022 => (some (!t13022))) else (none))) else (none))) else (none)) = some r := by first | (rw [hy13009]; with_reducible exact H) | (have H2_ := (Option.bind_some _ _).symm.trans H; rw [hy13009]; with_reducible exact H2_) | (have H2_ := (Option.bind_some _ _).symm.trans H; with_reducible exact H2_) | with_reducible exact H | (rw [hy13009]; exact H) | exact H
          have Ny13009 := Aside0.mk hy13009
          clear hy13009
          by_cases c18 : y13009.length + t13001.length < 4398046511104
          · rw [if_pos c18] at H
            have LMc18 := Aside0.mk c18
            clear c18
            obtain ⟨y13012, hy13012⟩ : ∃ y_ : List (S50), y_ = (y13009 ++ t13001) := ⟨_, rfl⟩
            replace H : (if 0 < (t13001.length : Int) then ((some (([(⟨(rd_T50 t13001 0).f0, (rd_T50 t13001 0).f1, (rd_T50 t13001 0).f2, (rd_T50 t13001 0).f3⟩ : S50)] : List (S50)) : List (S50))).bind fun y13016 => (if y13012.length + y13016.length < 4398046511104 then ((impl_ValidPacking.f kj4 (y13012 ++ y13016) t13002 t13003).bind fun t13022 => (some (!t13022))) else (none))) else (none)) = some r := by first | (rw [hy13012]; with_reducible exact H) | (have H2_ := (Option.bind_some _ _).symm.trans H; rw [hy13012]; with_reducible exact H2_) | (have H2_ := (Option.bind_some _ _).symm.trans H; with_reducible exact H2_) | with_reducible exact H | (rw [hy13012]; exact H) | exact H
            have Ny13012 := Aside0.mk hy13012
            clear hy13012
            by_cases c19 : 0 < (t13001.length : Int)
            · rw [if_pos c19] at H
              have c19b0 : decide (0 < (t13001.length : Int)) = true := decide_eq_true c19
              have c19b1 : decide (0 < t13001.length) = true := decide_eq_true (by omega)
              clear c19
              obtain ⟨y13016, hy13016⟩ : ∃ y_ : List (S50), y_ = (([(⟨(rd_T50 t13001 0).f0, (rd_T50 t13001 0).f1, (rd_T50 t13001 0).f2, (rd_T50 t13001 0).f3⟩ : S50)] : List (S50))) := ⟨_, rfl⟩
              replace H : (if y13012.length + y13016.length < 4398046511104 then ((impl_ValidPacking.f kj4 (y13012 ++ y13016) t13002 t13003).bind fun t13022 => (some (!t13022))) else (none)) = some r := by first | (rw [hy13016]; with_reducible exact H) | (have H2_ := (Option.bind_some _ _).symm.trans H; rw [hy13016]; with_reducible exact H2_) | (have H2_ := (Option.bind_some _ _).symm.trans H; with_reducible exact H2_) | with_reducible exact H | (rw [hy13016]; exact H) | exact H
              have Ny13016 := Aside0.mk hy13016
              clear hy13016
              by_cases c20 : y13012.length + y13016.length < 4398046511104
              · rw [if_pos c20] at H
                have LMc20 := Aside0.mk c20
                clear c20
                obtain ⟨y13019, hy13019⟩ : ∃ y_ : List (S50), y_ = (y13012 ++ y13016) := ⟨_, rfl⟩
                replace H : ((impl_ValidPacking.f kj4 y13019 t13002 t13003).bind fun t13022 => (some (!t13022))) = some r := by first | (rw [hy13019]; with_reducible exact H) | (have H2_ := (Option.bind_some _ _).symm.trans H; rw [hy13019]; with_reducible exact H2_) | (have H2_ := (Option.bind_some _ _).symm.trans H; with_reducible exact H2_) | with_reducible exact H | (rw [hy13019]; exact H) | exact H
                have Ny13019 := Aside0.mk hy13019
                clear hy13019
                replace H := Option.bind_eq_some_iff.mp H
                obtain ⟨t13022, A210, H⟩ := H
                replace H : (some (!t13022)) = some r := H
                have A21 := Aside0.mk A210
                clear A210
                obtain rfl := Option.some.inj H
                try go_wp2
                have n0_ := Aside0.mk (Kd.R_drew HO_3.out)
                have n1_ := Aside0.mk (below_drew1 HB.out)
                clear HO_3
                clear HB
                have HO_3 := n0_
                have HB := n1_
                clear n0_ n1_
                have p13015 : 0 ≤ (0 : Int) := (by omega)
                have q13015 : 0 < (t13001.length : Int) := of_decide_eq_true (by first | (with_reducible assumption) | assumption)
                obtain ⟨ad13015, e13015, hx13015_0, hx13015_1, hx13015_2, hx13015_3⟩ := at_T50 (Kd.R_reads' HO_3.out).2.2 0 p13015 q13015
                cases e13015
                have qi13015 : (0 < t13001.length) = True := eq_true (by omega)
                (try rw [show ((0 : Int)).toNat = 0 from rfl] at hx13015_0)
                (try rw [show 0 * 4 = 0 from rfl] at hx13015_0)
                (try rw [Addr.add_zero'] at hx13015_0)
                (try rw [show ((0 : Int)).toNat = 0 from rfl] at hx13015_1)
                (try rw [show 0 * 4 = 0 from rfl] at hx13015_1)
                (try rw [Addr.add_zero'] at hx13015_1)
                (try rw [show ((0 : Int)).toNat = 0 from rfl] at hx13015_2)
                (try rw [show 0 * 4 = 0 from rfl] at hx13015_2)
                (try rw [Addr.add_zero'] at hx13015_2)
                (try rw [show ((0 : Int)).toNat = 0 from rfl] at hx13015_3)
                (try rw [show 0 * 4 = 0 from rfl] at hx13015_3)
                (try rw [Addr.add_zero'] at hx13015_3)
                replace p13015 := eq_true p13015
                replace q13015 := eq_true q13015
                refine start_ (n := 13) (S := fun w' => w'.cell? ad13015 = some (.int .i64 ((rd_T50 t13001 0).f0)) ∧ w'.cell? ⟨ad13015.block, ad13015.off + 1, none⟩ = some (.int .i64 ((rd_T50 t13001 0).f1)) ∧ w'.cell? ⟨ad13015.block, ad13015.off + 2, none⟩ = some (.int .i64 ((rd_T50 t13001 0).f2)) ∧ w'.cell? ⟨ad13015.block, ad13015.off + 3, none⟩ = some (.int .i64 ((rd_T50 t13001 0).f3))) (ds := []) #[false, false, false, false, false, false, false, false, false, false, false, false, false] (by kernel_rfl) rfl rfl ⟨hx13015_0, hx13015_1, hx13015_2, hx13015_3⟩ (fun hHeld => ?_); refine with_tabW laws_FnValidPackingTwice.tab7 laws_FnValidPackingTwice.bits7 (fun HT_ HW_ => ?_)
                generalize wc.drew = w22 at HO_3 HB hx13015_0 hx13015_1 hx13015_2 hx13015_3 hHeld ⊢
                refine pure_ (i := 1) (N := some 42) (v := ?_) (a' := ?_) #[false, true, false, false, false, false, false, false, false, false, false, false, false] rfl rfl (any_of HT_.out (by kernel_rfl)) (fun _ _ _ h => h) (Or.inl ⟨by rfl, ?_⟩) ?_ ?_
                rotate_left
                · intro w'
                  go_simp
                  with_reducible rfl
                rotate_left
                · simp only [Act.put, List.setIfInBounds_toArray, List.set_cons_zero, List.set_cons_succ, i64_w, i32_w]
                  rfl
                refine pure_ (i := 3) (N := some 44) (v := ?_) (a' := ?_) #[false, true, false, true, false, false, false, false, false, false, false, false, false] rfl rfl (any_of HT_.out (by kernel_rfl)) (fun _ _ _ h => h) (Or.inl ⟨by rfl, ?_⟩) ?_ ?_
                rotate_left
                · intro w'
                  go_simp
                  with_reducible rfl
                rotate_left
                · simp only [Act.put, List.setIfInBounds_toArray, List.set_cons_zero, List.set_cons_succ, i64_w, i32_w]
                  rfl
                refine pure_ (i := 4) (N := some 45) (v := ?_) (a' := ?_) #[false, true, false, true, true, false, false, false, false, false, false, false, false] rfl rfl (any_of HT_.out (by kernel_rfl)) (fun _ _ _ h => h) (Or.inl ⟨by rfl, ?_⟩) ?_ ?_
                rotate_left
                · intro w'
                  go_simp
                  with_reducible rfl
                rotate_left
                · simp only [Act.put, List.setIfInBounds_toArray, List.set_cons_zero, List.set_cons_succ, i64_w, i32_w]
                  rfl
                refine pure_ (i := 8) (N := some 49) (v := ?_) (a' := ?_) #[false, true, false, true, true, false, false, false, true, false, false, false, false] rfl rfl (any_of HT_.out (by kernel_rfl)) (fun _ _ _ h => h) (Or.inl ⟨by rfl, ?_⟩) ?_ ?_
                rotate_left
                · intro w'
                  go_simp
                  with_reducible rfl
                rotate_left
                · simp only [Act.put, List.setIfInBounds_toArray, List.set_cons_zero, List.set_cons_succ, i64_w, i32_w]
                  rfl
                refine pure_ (i := 9) (N := some 50) (v := ?_) (a' := ?_) #[false, true, false, true, true, false, false, false, true, true, false, false, false] rfl rfl (any_of HT_.out (by kernel_rfl)) (fun _ _ _ h => h) (Or.inl ⟨by rfl, ?_⟩) ?_ ?_
                rotate_left
                · intro w'
                  go_simp
                  with_reducible rfl
                rotate_left
                · simp only [Act.put, List.setIfInBounds_toArray, List.set_cons_zero, List.set_cons_succ, i64_w, i32_w]
                  rfl
                refine take_ (i := 5) (N := some 46) (v := ?_) (a' := ?_) #[false, true, false, true, true, true, false, false, true, true, false, false, false] rfl rfl (take_ofW HT_.out HW_.out (by kernel_rfl)) (fun _ _ _ h => h) (Or.inl ⟨by rfl, ?_⟩) hHeld ?_ ?_
                rotate_left
                · rintro w' ⟨s0, s1, s2, s3⟩
                  go_simp
                  with_reducible rfl
                rotate_left
                · simp only [Act.put, List.setIfInBounds_toArray, List.set_cons_zero, List.set_cons_succ, i64_w, i32_w]
                  rfl
                refine join_ (σ := Value × Value × Value) 4 #[true, true, true, true, true, true, true, false, true, true, false, false, false] (fun s_ => [(41, s_.1), (43, s_.2.1), (47, s_.2.2)]) (fun s_ w' => (w'.cell? ad13015 = some (.int .i64 ((rd_T50 t13001 0).f0)) ∧ w'.cell? ⟨ad13015.block, ad13015.off + 1, none⟩ = some (.int .i64 ((rd_T50 t13001 0).f1)) ∧ w'.cell? ⟨ad13015.block, ad13015.off + 2, none⟩ = some (.int .i64 ((rd_T50 t13001 0).f2)) ∧ w'.cell? ⟨ad13015.block, ad13015.off + 3, none⟩ = some (.int .i64 ((rd_T50 t13001 0).f3))) ∧ (Kd.R k50 50 w' w.heap.size (fun k_ => some k_ ≠ (s_.2.2 : Value).ownBlock ∧ some k_ ≠ (.slice (some ad13015) t13001.length co7 : Value).ownBlock) s_.2.1 y13012) ∧ (Kd.R k50 50 w' w.heap.size (fun k_ => some k_ ≠ (s_.2.1 : Value).ownBlock ∧ some k_ ≠ (.slice (some ad13015) t13001.length co7 : Value).ownBlock) s_.2.2 y13016) ∧ (Kd.R k50 50 w' w.heap.size (fun k_ => some k_ ≠ (s_.2.1 : Value).ownBlock ∧ some k_ ≠ (s_.2.2 : Value).ownBlock) (.slice (some ad13015) t13001.length co7) t13001) ∧ (Below w.heap.size w w')) ?_ ?_
                rotate_left
                · intro hCont
                  refine two_ (i := 0) (j := 6) (Ni := some 41) (Nj := some 47) #[true, true, false, true, true, true, false, false, true, true, false, false, false] #[false, true, false, true, true, true, true, false, true, true, false, false, false] rfl rfl rfl rfl (two_of HT_.out (by kernel_rfl)) (by decide) (by decide) (fun K hK => ?_) (fun K hK => ?_)
                  · skip
                    refine Kd.R_lit_step k50 _ 50 ?hg (N := 41) ?hd (xs := ([] : List (S50))) (inner := []) (ok := fun _ => True) (okp := fun _ => True) ?hr ?hp (fun _ hk => hk) trivial (Below.refl _ _) (Nat.le_refl _) (by simp) ?_; (case hd => rfl); (case hg => rfl); (case hr => first | (go_simp; done) | (go_simp; rfl)); (case hp => exact (Reps.none _ _))
                    intro v13010 w23 ho24 hb hg_ hnew_
                    have HS0_ := (hb.cell (World.block_lt_of_cell? _ _ (hHeld.1))).trans (hHeld.1)
                    have HS1_ := (hb.cell (World.block_lt_of_cell? _ _ (hHeld.2.1))).trans (hHeld.2.1)
                    have HS2_ := (hb.cell (World.block_lt_of_cell? _ _ (hHeld.2.2.1))).trans (hHeld.2.2.1)
                    have HS3_ := (hb.cell (World.block_lt_of_cell? _ _ (hHeld.2.2.2))).trans (hHeld.2.2.2)
                    clear hg_ hnew_
                    (first | rw [← Ny13009.out] at ho24 | (simp only [Int.reduceToNat] at ho24; rw [← Ny13009.out] at ho24))
                    have n0_ := Aside0.mk (Kd.R_elder' (by (with_reducible repeat (first | apply Kd.R_alloc | apply Kd.R_drewN | apply Kd.R_drew)); exact HO_3.out) (Kd.R_base ho24) hb)
                    have n1_ := Aside0.mk (Kd.R_lower (Kd.R_new' ho24 (Kd.R_lt (by (with_reducible repeat (first | apply Kd.R_alloc | apply Kd.R_drewN | apply Kd.R_drew)); exact HO_3.out))) (below_size (by repeat (first | (with_reducible first | exact HB.out | apply below_alloc | apply pw_below_drewN | apply below_drew1) | exact HB.out))))
                    have n2_ := Aside0.mk (below_step (by repeat (first | (with_reducible first | exact HB.out | apply below_alloc | apply pw_below_drewN | apply below_drew1) | exact HB.out)) hb)
                    clear HO_3
                    clear HB
                    have HO_3 := n0_
                    have HO13011 := n1_
                    have HB := n2_
                    clear n0_ n1_ n2_
                    clear hb ho24
                    refine hK.out _ _ ⟨HS0_, HS1_, HS2_, HS3_⟩ (fun hHeld => ?_)
                    clear hK K
                    refine norm_ (a' := ?_) ?_ ?_
                    rotate_left
                    · show Act.put _ (some 41) _ = _
                      simp only [Act.put, List.setIfInBounds_toArray, List.set_cons_zero, List.set_cons_succ, i64_w, i32_w]
                      rfl
                    refine two_ (i := 2) (j := 6) (Ni := some 43) (Nj := some 47) #[true, true, true, true, true, true, false, false, true, true, false, false, false] #[true, true, false, true, true, true, true, false, true, true, false, false, false] rfl rfl rfl rfl (two_of HT_.out (by kernel_rfl)) (by decide) (by decide) (fun K hK => ?_) (fun K hK => ?_)
                    · skip
                      refine Kd.R_append_rows_step k50 (w0 := w) w.heap.size (by rfl) (.tmp 41) (.tmp 42) 27 50 (.agg #[(.int .i64 0), (.int .i64 0), (.int .i64 0), (.int .i64 0)]) 32 rfl Try.underlying27 info50 rfl (by decide) (by omega) v13010 y13009 t13001 _ _ _ (fun k_ => some k_ ≠ (.slice (some ad13015) t13001.length co7 : Value).ownBlock) (fun _ => False) rfl rfl ?aO ?aR (fun _ _ h => h) (fun _ h => h.elim) ?aF ?aB ?aS ?aL ?_
                      (case aR => repeat (first | exact (Kd.R_reads' HO_3.out).2.2 | (with_reducible refine Kd.C_alloc ?_ _) | (with_reducible refine Kd.C_drewN ?_ _) | (with_reducible refine Kd.C_drew ?_)))
                      (case aB => exact (by repeat (first | (with_reducible first | exact HB.out | apply below_alloc | apply pw_below_drewN | apply below_drew1) | exact HB.out)))
                      (case aF => exact (fun k_ hk => Kd.fresh' (Kd.R_lt (by (with_reducible repeat (first | apply Kd.R_alloc | apply Kd.R_drewN | apply Kd.R_drew)); exact HO_3.out)) k_ hk))
                      (case aO => exact (by (with_reducible repeat (first | apply Kd.R_alloc | apply Kd.R_drewN | apply Kd.R_drew)); exact Kd.R_mono HO13011.out (fun _ hk => hk.2)))
                      (case aS => exact (below_size (by repeat (first | (with_reducible first | exact HB.out | apply below_alloc | apply pw_below_drewN | apply below_drew1) | exact HB.out))))
                      (case aL => have := LMc18.out; omega)
                      intro v13013 w25 ho hb hg hat
                      have HS0_ := cell_grown hg (hHeld.1) (by first | (rw [add_block]; exact (by intro e_; have z_ := HO13011.out.1 _ e_.symm; first | exact z_ rfl | exact z_.1 rfl | exact z_.2 rfl | exact z_.1.1 rfl | exact z_.1.2 rfl | exact z_.2.1 rfl | exact z_.2.2 rfl)) | (show some (Addr.add _ _).block ≠ _; rw [add_block]; exact (by intro e_; have z_ := HO13011.out.1 _ e_.symm; first | exact z_ rfl | exact z_.1 rfl | exact z_.2 rfl | exact z_.1.1 rfl | exact z_.1.2 rfl | exact z_.2.1 rfl | exact z_.2.2 rfl)) | exact (by intro e_; have z_ := HO13011.out.1 _ e_.symm; first | exact z_ rfl | exact z_.1 rfl | exact z_.2 rfl | exact z_.1.1 rfl | exact z_.1.2 rfl | exact z_.2.1 rfl | exact z_.2.2 rfl))
                      have HS1_ := cell_grown hg (hHeld.2.1) (by first | (rw [add_block]; exact (by intro e_; have z_ := HO13011.out.1 _ e_.symm; first | exact z_ rfl | exact z_.1 rfl | exact z_.2 rfl | exact z_.1.1 rfl | exact z_.1.2 rfl | exact z_.2.1 rfl | exact z_.2.2 rfl)) | (show some (Addr.add _ _).block ≠ _; rw [add_block]; exact (by intro e_; have z_ := HO13011.out.1 _ e_.symm; first | exact z_ rfl | exact z_.1 rfl | exact z_.2 rfl | exact z_.1.1 rfl | exact z_.1.2 rfl | exact z_.2.1 rfl | exact z_.2.2 rfl)) | exact (by intro e_; have z_ := HO13011.out.1 _ e_.symm; first | exact z_ rfl | exact z_.1 rfl | exact z_.2 rfl | exact z_.1.1 rfl | exact z_.1.2 rfl | exact z_.2.1 rfl | exact z_.2.2 rfl))
                      have HS2_ := cell_grown hg (hHeld.2.2.1) (by first | (rw [add_block]; exact (by intro e_; have z_ := HO13011.out.1 _ e_.symm; first | exact z_ rfl | exact z_.1 rfl | exact z_.2 rfl | exact z_.1.1 rfl | exact z_.1.2 rfl | exact z_.2.1 rfl | exact z_.2.2 rfl)) | (show some (Addr.add _ _).block ≠ _; rw [add_block]; exact (by intro e_; have z_ := HO13011.out.1 _ e_.symm; first | exact z_ rfl | exact z_.1 rfl | exact z_.2 rfl | exact z_.1.1 rfl | exact z_.1.2 rfl | exact z_.2.1 rfl | exact z_.2.2 rfl)) | exact (by intro e_; have z_ := HO13011.out.1 _ e_.symm; first | exact z_ rfl | exact z_.1 rfl | exact z_.2 rfl | exact z_.1.1 rfl | exact z_.1.2 rfl | exact z_.2.1 rfl | exact z_.2.2 rfl))
                      have HS3_ := cell_grown hg (hHeld.2.2.2) (by first | (rw [add_block]; exact (by intro e_; have z_ := HO13011.out.1 _ e_.symm; first | exact z_ rfl | exact z_.1 rfl | exact z_.2 rfl | exact z_.1.1 rfl | exact z_.1.2 rfl | exact z_.2.1 rfl | exact z_.2.2 rfl)) | (show some (Addr.add _ _).block ≠ _; rw [add_block]; exact (by intro e_; have z_ := HO13011.out.1 _ e_.symm; first | exact z_ rfl | exact z_.1 rfl | exact z_.2 rfl | exact z_.1.1 rfl | exact z_.1.2 rfl | exact z_.2.1 rfl | exact z_.2.2 rfl)) | exact (by intro e_; have z_ := HO13011.out.1 _ e_.symm; first | exact z_ rfl | exact z_.1 rfl | exact z_.2 rfl | exact z_.1.1 rfl | exact z_.1.2 rfl | exact z_.2.1 rfl | exact z_.2.2 rfl))
                      rw [← Ny13012.out] at ho
                      have n0_ := Aside0.mk (Kd.R_after (ok := (fun _ => True)) (by (with_reducible repeat (first | apply Kd.R_alloc | apply Kd.R_drewN | apply Kd.R_drew)); exact HO_3.out) hg hat)
                      have n1_ := Aside0.mk (hb)
                      have n2_ := Aside0.mk (ho)
                      clear HO_3
                      clear HB
                      clear HO13011
                      have HO_3 := n0_
                      have HB := n1_
                      have HO13014 := n2_
                      clear n0_ n1_ n2_
                      clear ho hb hg hat
                      refine hK.out _ _ ⟨HS0_, HS1_, HS2_, HS3_⟩ (fun hHeld => ?_)
                      clear hK K
                      refine norm_ (a' := ?_) ?_ ?_
                      rotate_left
                      · show Act.put _ (some 43) _ = _
                        simp only [Act.put, List.setIfInBounds_toArray, List.set_cons_zero, List.set_cons_succ, i64_w, i32_w]
                        rfl
                      refine one_ (i := 6) (N := some 47) #[true, true, true, true, true, true, true, false, true, true, false, false, false] rfl rfl (one_of HT_.out (by kernel_rfl)) (by decide) (fun K hK => ?_)
                      refine Kd.R_lit_step k50 _ 50 ?hg (N := 47) ?hd (xs := ([(⟨(rd_T50 t13001 0).f0, (rd_T50 t13001 0).f1, (rd_T50 t13001 0).f2, (rd_T50 t13001 0).f3⟩ : S50)] : List (S50))) (inner := [.int .i64 ((rd_T50 t13001 0).f0), .int .i64 ((rd_T50 t13001 0).f1), .int .i64 ((rd_T50 t13001 0).f2), .int .i64 ((rd_T50 t13001 0).f3)]) (ok := fun _ => True) (okp := fun _ => True) ?hr ?hp (fun _ hk => hk) trivial (Below.refl _ _) (Nat.le_refl _) (by simp) ?_; (case hd => rfl); (case hg => rfl); (case hr => first | (go_simp; done) | (go_simp; rfl)); (case hp => exact (Reps.c4 (show Kd.M k50 _ _ _ (⟨(rd_T50 t13001 0).f0, (rd_T50 t13001 0).f1, (rd_T50 t13001 0).f2, (rd_T50 t13001 0).f3⟩ : S50) [.int .i64 ((rd_T50 t13001 0).f0), .int .i64 ((rd_T50 t13001 0).f1), .int .i64 ((rd_T50 t13001 0).f2), .int .i64 ((rd_T50 t13001 0).f3)] from (k50_mkM _ _ _ (⟨(rd_T50 t13001 0).f0, (rd_T50 t13001 0).f1, (rd_T50 t13001 0).f2, (rd_T50 t13001 0).f3⟩ : S50) )) (Reps.none _ _)))
                      intro v13017 w26 ho27 hb hg_ hnew_
                      have HS0_ := (hb.cell (World.block_lt_of_cell? _ _ (hHeld.1))).trans (hHeld.1)
                      have HS1_ := (hb.cell (World.block_lt_of_cell? _ _ (hHeld.2.1))).trans (hHeld.2.1)
                      have HS2_ := (hb.cell (World.block_lt_of_cell? _ _ (hHeld.2.2.1))).trans (hHeld.2.2.1)
                      have HS3_ := (hb.cell (World.block_lt_of_cell? _ _ (hHeld.2.2.2))).trans (hHeld.2.2.2)
                      clear hg_ hnew_
                      (first | rw [← Ny13016.out] at ho27 | (simp only [Int.reduceToNat] at ho27; rw [← Ny13016.out] at ho27))
                      have n0_ := Aside0.mk (Kd.R_elder' (by (with_reducible repeat (first | apply Kd.R_alloc | apply Kd.R_drewN | apply Kd.R_drew)); exact HO_3.out) (Kd.R_base ho27) hb)
                      have n1_ := Aside0.mk (Kd.R_elder' (by (with_reducible repeat (first | apply Kd.R_alloc | apply Kd.R_drewN | apply Kd.R_drew)); exact HO13014.out) (Kd.R_base ho27) hb)
                      have n2_ := Aside0.mk (Kd.R_lower (Kd.R_new' (Kd.R_new' ho27 (Kd.R_lt (by (with_reducible repeat (first | apply Kd.R_alloc | apply Kd.R_drewN | apply Kd.R_drew)); exact HO_3.out))) (Kd.R_lt (by (with_reducible repeat (first | apply Kd.R_alloc | apply Kd.R_drewN | apply Kd.R_drew)); exact HO13014.out))) (below_size (by repeat (first | (with_reducible first | exact HB.out | apply below_alloc | apply pw_below_drewN | apply below_drew1) | exact HB.out))))
                      have n3_ := Aside0.mk (below_step (by repeat (first | (with_reducible first | exact HB.out | apply below_alloc | apply pw_below_drewN | apply below_drew1) | exact HB.out)) hb)
                      clear HO_3
                      clear HO13014
                      clear HB
                      have HO_3 := n0_
                      have HO13014 := n1_
                      have HO13018 := n2_
                      have HB := n3_
                      clear n0_ n1_ n2_ n3_
                      clear hb ho27
                      refine hK.out _ _ ⟨HS0_, HS1_, HS2_, HS3_⟩ (fun hHeld => ?_)
                      clear hK K
                      refine norm_ (a' := ?_) ?_ ?_
                      rotate_left
                      · show Act.put _ (some 47) _ = _
                        simp only [Act.put, List.setIfInBounds_toArray, List.set_cons_zero, List.set_cons_succ, i64_w, i32_w]
                        rfl
                      exact norm_ (by simp only [putAll, Act.put, List.setIfInBounds_toArray, List.set_cons_zero, List.set_cons_succ]) (hCont (v13010, v13013, v13017) _ ⟨hHeld, (by (with_reducible repeat (first | apply Kd.R_alloc | apply Kd.R_drewN | apply Kd.R_drew)); exact Kd.R_mono HO13014.out (fun _ hk => ⟨hk.2, hk.1⟩)), (by (with_reducible repeat (first | apply Kd.R_alloc | apply Kd.R_drewN | apply Kd.R_drew)); exact Kd.R_mono HO13018.out (fun _ hk => ⟨hk.2, hk.1.2⟩)), (by (with_reducible repeat (first | apply Kd.R_alloc | apply Kd.R_drewN | apply Kd.R_drew)); exact Kd.R_mono HO_3.out (fun _ hk => ⟨hk.1.2, hk.2⟩)), (by repeat (first | (with_reducible first | exact HB.out | apply below_alloc | apply pw_below_drewN | apply below_drew1) | exact HB.out))⟩)
                    · skip
                      refine Kd.R_lit_step k50 _ 50 ?hg (N := 47) ?hd (xs := ([(⟨(rd_T50 t13001 0).f0, (rd_T50 t13001 0).f1, (rd_T50 t13001 0).f2, (rd_T50 t13001 0).f3⟩ : S50)] : List (S50))) (inner := [.int .i64 ((rd_T50 t13001 0).f0), .int .i64 ((rd_T50 t13001 0).f1), .int .i64 ((rd_T50 t13001 0).f2), .int .i64 ((rd_T50 t13001 0).f3)]) (ok := fun _ => True) (okp := fun _ => True) ?hr ?hp (fun _ hk => hk) trivial (Below.refl _ _) (Nat.le_refl _) (by simp) ?_; (case hd => rfl); (case hg => rfl); (case hr => first | (go_simp; done) | (go_simp; rfl)); (case hp => exact (Reps.c4 (show Kd.M k50 _ _ _ (⟨(rd_T50 t13001 0).f0, (rd_T50 t13001 0).f1, (rd_T50 t13001 0).f2, (rd_T50 t13001 0).f3⟩ : S50) [.int .i64 ((rd_T50 t13001 0).f0), .int .i64 ((rd_T50 t13001 0).f1), .int .i64 ((rd_T50 t13001 0).f2), .int .i64 ((rd_T50 t13001 0).f3)] from (k50_mkM _ _ _ (⟨(rd_T50 t13001 0).f0, (rd_T50 t13001 0).f1, (rd_T50 t13001 0).f2, (rd_T50 t13001 0).f3⟩ : S50) )) (Reps.none _ _)))
                      intro v13017 w25 ho26 hb hg_ hnew_
                      have HS0_ := (hb.cell (World.block_lt_of_cell? _ _ (hHeld.1))).trans (hHeld.1)
                      have HS1_ := (hb.cell (World.block_lt_of_cell? _ _ (hHeld.2.1))).trans (hHeld.2.1)
                      have HS2_ := (hb.cell (World.block_lt_of_cell? _ _ (hHeld.2.2.1))).trans (hHeld.2.2.1)
                      have HS3_ := (hb.cell (World.block_lt_of_cell? _ _ (hHeld.2.2.2))).trans (hHeld.2.2.2)
                      clear hg_ hnew_
                      (first | rw [← Ny13016.out] at ho26 | (simp only [Int.reduceToNat] at ho26; rw [← Ny13016.out] at ho26))
                      have n0_ := Aside0.mk (Kd.R_elder' (by (with_reducible repeat (first | apply Kd.R_alloc | apply Kd.R_drewN | apply Kd.R_drew)); exact HO_3.out) (Kd.R_base ho26) hb)
                      have n1_ := Aside0.mk (Kd.R_elder' (by (with_reducible repeat (first | apply Kd.R_alloc | apply Kd.R_drewN | apply Kd.R_drew)); exact HO13011.out) (Kd.R_base ho26) hb)
                      have n2_ := Aside0.mk (Kd.R_lower (Kd.R_new' (Kd.R_new' ho26 (Kd.R_lt (by (with_reducible repeat (first | apply Kd.R_alloc | apply Kd.R_drewN | apply Kd.R_drew)); exact HO_3.out))) (Kd.R_lt (by (with_reducible repeat (first | apply Kd.R_alloc | apply Kd.R_drewN | apply Kd.R_drew)); exact HO13011.out))) (below_size (by repeat (first | (with_reducible first | exact HB.out | apply below_alloc | apply pw_below_drewN | apply below_drew1) | exact HB.out))))
                      have n3_ := Aside0.mk (below_step (by repeat (first | (with_reducible first | exact HB.out | apply below_alloc | apply pw_below_drewN | apply below_drew1) | exact HB.out)) hb)
                      clear HO_3
                      clear HO13011
                      clear HB
                      have HO_3 := n0_
                      have HO13011 := n1_
                      have HO13018 := n2_
                      have HB := n3_
                      clear n0_ n1_ n2_ n3_
                      clear hb ho26
                      refine hK.out _ _ ⟨HS0_, HS1_, HS2_, HS3_⟩ (fun hHeld => ?_)
                      clear hK K
                      refine norm_ (a' := ?_) ?_ ?_
                      rotate_left
                      · show Act.put _ (some 47) _ = _
                        simp only [Act.put, List.setIfInBounds_toArray, List.set_cons_zero, List.set_cons_succ, i64_w, i32_w]
                        rfl
                      refine one_ (i := 2) (N := some 43) #[true, true, true, true, true, true, true, false, true, true, false, false, false] rfl rfl (one_of HT_.out (by kernel_rfl)) (by decide) (fun K hK => ?_)
                      refine Kd.R_append_rows_step k50 (w0 := w) w.heap.size (by rfl) (.tmp 41) (.tmp 42) 27 50 (.agg #[(.int .i64 0), (.int .i64 0), (.int .i64 0), (.int .i64 0)]) 32 rfl Try.underlying27 info50 rfl (by decide) (by omega) v13010 y13009 t13001 _ _ _ (fun k_ => some k_ ≠ (.slice (some ad13015) t13001.length co7 : Value).ownBlock ∧ some k_ ≠ (v13017 : Value).ownBlock) (fun _ => False) rfl rfl ?aO ?aR (fun _ _ h => h) (fun _ h => h.elim) ?aF ?aB ?aS ?aL ?_
                      (case aR => repeat (first | exact (Kd.R_reads' HO_3.out).2.2 | (with_reducible refine Kd.C_alloc ?_ _) | (with_reducible refine Kd.C_drewN ?_ _) | (with_reducible refine Kd.C_drew ?_)))
                      (case aB => exact (by repeat (first | (with_reducible first | exact HB.out | apply below_alloc | apply pw_below_drewN | apply below_drew1) | exact HB.out)))
                      (case aF => exact (fun k_ hk => ⟨Kd.fresh' (Kd.R_lt (by (with_reducible repeat (first | apply Kd.R_alloc | apply Kd.R_drewN | apply Kd.R_drew)); exact HO_3.out)) k_ hk, Kd.fresh' (Kd.R_lt (by (with_reducible repeat (first | apply Kd.R_alloc | apply Kd.R_drewN | apply Kd.R_drew)); exact HO13018.out)) k_ hk⟩))
                      (case aO => exact (by (with_reducible repeat (first | apply Kd.R_alloc | apply Kd.R_drewN | apply Kd.R_drew)); exact Kd.R_mono HO13011.out (fun _ hk => ⟨hk.1.2, hk.2⟩)))
                      (case aS => exact (below_size (by repeat (first | (with_reducible first | exact HB.out | apply below_alloc | apply pw_below_drewN | apply below_drew1) | exact HB.out))))
                      (case aL => have := LMc18.out; omega)
                      intro v13013 w27 ho hb hg hat
                      have HS0_ := cell_grown hg (hHeld.1) (by first | (rw [add_block]; exact (by intro e_; have z_ := HO13011.out.1 _ e_.symm; first | exact z_ rfl | exact z_.1 rfl | exact z_.2 rfl | exact z_.1.1 rfl | exact z_.1.2 rfl | exact z_.2.1 rfl | exact z_.2.2 rfl)) | (show some (Addr.add _ _).block ≠ _; rw [add_block]; exact (by intro e_; have z_ := HO13011.out.1 _ e_.symm; first | exact z_ rfl | exact z_.1 rfl | exact z_.2 rfl | exact z_.1.1 rfl | exact z_.1.2 rfl | exact z_.2.1 rfl | exact z_.2.2 rfl)) | exact (by intro e_; have z_ := HO13011.out.1 _ e_.symm; first | exact z_ rfl | exact z_.1 rfl | exact z_.2 rfl | exact z_.1.1 rfl | exact z_.1.2 rfl | exact z_.2.1 rfl | exact z_.2.2 rfl))
                      have HS1_ := cell_grown hg (hHeld.2.1) (by first | (rw [add_block]; exact (by intro e_; have z_ := HO13011.out.1 _ e_.symm; first | exact z_ rfl | exact z_.1 rfl | exact z_.2 rfl | exact z_.1.1 rfl | exact z_.1.2 rfl | exact z_.2.1 rfl | exact z_.2.2 rfl)) | (show some (Addr.add _ _).block ≠ _; rw [add_block]; exact (by intro e_; have z_ := HO13011.out.1 _ e_.symm; first | exact z_ rfl | exact z_.1 rfl | exact z_.2 rfl | exact z_.1.1 rfl | exact z_.1.2 rfl | exact z_.2.1 rfl | exact z_.2.2 rfl)) | exact (by intro e_; have z_ := HO13011.out.1 _ e_.symm; first | exact z_ rfl | exact z_.1 rfl | exact z_.2 rfl | exact z_.1.1 rfl | exact z_.1.2 rfl | exact z_.2.1 rfl | exact z_.2.2 rfl))
                      have HS2_ := cell_grown hg (hHeld.2.2.1) (by first | (rw [add_block]; exact (by intro e_; have z_ := HO13011.out.1 _ e_.symm; first | exact z_ rfl | exact z_.1 rfl | exact z_.2 rfl | exact z_.1.1 rfl | exact z_.1.2 rfl | exact z_.2.1 rfl | exact z_.2.2 rfl)) | (show some (Addr.add _ _).block ≠ _; rw [add_block]; exact (by intro e_; have z_ := HO13011.out.1 _ e_.symm; first | exact z_ rfl | exact z_.1 rfl | exact z_.2 rfl | exact z_.1.1 rfl | exact z_.1.2 rfl | exact z_.2.1 rfl | exact z_.2.2 rfl)) | exact (by intro e_; have z_ := HO13011.out.1 _ e_.symm; first | exact z_ rfl | exact z_.1 rfl | exact z_.2 rfl | exact z_.1.1 rfl | exact z_.1.2 rfl | exact z_.2.1 rfl | exact z_.2.2 rfl))
                      have HS3_ := cell_grown hg (hHeld.2.2.2) (by first | (rw [add_block]; exact (by intro e_; have z_ := HO13011.out.1 _ e_.symm; first | exact z_ rfl | exact z_.1 rfl | exact z_.2 rfl | exact z_.1.1 rfl | exact z_.1.2 rfl | exact z_.2.1 rfl | exact z_.2.2 rfl)) | (show some (Addr.add _ _).block ≠ _; rw [add_block]; exact (by intro e_; have z_ := HO13011.out.1 _ e_.symm; first | exact z_ rfl | exact z_.1 rfl | exact z_.2 rfl | exact z_.1.1 rfl | exact z_.1.2 rfl | exact z_.2.1 rfl | exact z_.2.2 rfl)) | exact (by intro e_; have z_ := HO13011.out.1 _ e_.symm; first | exact z_ rfl | exact z_.1 rfl | exact z_.2 rfl | exact z_.1.1 rfl | exact z_.1.2 rfl | exact z_.2.1 rfl | exact z_.2.2 rfl))
                      rw [← Ny13012.out] at ho
                      have n0_ := Aside0.mk (Kd.R_after (ok := (fun k_ => some k_ ≠ (v13017 : Value).ownBlock)) (by (with_reducible repeat (first | apply Kd.R_alloc | apply Kd.R_drewN | apply Kd.R_drew)); exact Kd.R_mono HO_3.out (fun _ hk => ⟨hk.2, hk.1.2⟩)) hg hat)
                      have n1_ := Aside0.mk (Kd.R_after (ok := (fun k_ => some k_ ≠ (.slice (some ad13015) t13001.length co7 : Value).ownBlock)) (by (with_reducible repeat (first | apply Kd.R_alloc | apply Kd.R_drewN | apply Kd.R_drew)); exact Kd.R_mono HO13018.out (fun _ hk => ⟨hk.1.2, hk.2⟩)) hg hat)
                      have n2_ := Aside0.mk (hb)
                      have n3_ := Aside0.mk (ho)
                      clear HO_3
                      clear HO13018
                      clear HB
                      clear HO13011
                      have HO_3 := n0_
                      have HO13018 := n1_
                      have HB := n2_
                      have HO13014 := n3_
                      clear n0_ n1_ n2_ n3_
                      clear ho hb hg hat
                      refine hK.out _ _ ⟨HS0_, HS1_, HS2_, HS3_⟩ (fun hHeld => ?_)
                      clear hK K
                      refine norm_ (a' := ?_) ?_ ?_
                      rotate_left
                      · show Act.put _ (some 43) _ = _
                        simp only [Act.put, List.setIfInBounds_toArray, List.set_cons_zero, List.set_cons_succ, i64_w, i32_w]
                        rfl
                      exact norm_ (by simp only [putAll, Act.put, List.setIfInBounds_toArray, List.set_cons_zero, List.set_cons_succ]) (hCont (v13010, v13013, v13017) _ ⟨hHeld, (by (with_reducible repeat (first | apply Kd.R_alloc | apply Kd.R_drewN | apply Kd.R_drew)); exact Kd.R_mono HO13014.out (fun _ hk => ⟨hk.2, hk.1⟩)), (by (with_reducible repeat (first | apply Kd.R_alloc | apply Kd.R_drewN | apply Kd.R_drew)); exact Kd.R_mono HO13018.out (fun _ hk => ⟨hk.2, hk.1⟩)), (by (with_reducible repeat (first | apply Kd.R_alloc | apply Kd.R_drewN | apply Kd.R_drew)); exact Kd.R_mono HO_3.out (fun _ hk => ⟨hk.2, hk.1⟩)), (by repeat (first | (with_reducible first | exact HB.out | apply below_alloc | apply pw_below_drewN | apply below_drew1) | exact HB.out))⟩)
                  · skip
                    refine Kd.R_lit_step k50 _ 50 ?hg (N := 47) ?hd (xs := ([(⟨(rd_T50 t13001 0).f0, (rd_T50 t13001 0).f1, (rd_T50 t13001 0).f2, (rd_T50 t13001 0).f3⟩ : S50)] : List (S50))) (inner := [.int .i64 ((rd_T50 t13001 0).f0), .int .i64 ((rd_T50 t13001 0).f1), .int .i64 ((rd_T50 t13001 0).f2), .int .i64 ((rd_T50 t13001 0).f3)]) (ok := fun _ => True) (okp := fun _ => True) ?hr ?hp (fun _ hk => hk) trivial (Below.refl _ _) (Nat.le_refl _) (by simp) ?_; (case hd => rfl); (case hg => rfl); (case hr => first | (go_simp; done) | (go_simp; rfl)); (case hp => exact (Reps.c4 (show Kd.M k50 _ _ _ (⟨(rd_T50 t13001 0).f0, (rd_T50 t13001 0).f1, (rd_T50 t13001 0).f2, (rd_T50 t13001 0).f3⟩ : S50) [.int .i64 ((rd_T50 t13001 0).f0), .int .i64 ((rd_T50 t13001 0).f1), .int .i64 ((rd_T50 t13001 0).f2), .int .i64 ((rd_T50 t13001 0).f3)] from (k50_mkM _ _ _ (⟨(rd_T50 t13001 0).f0, (rd_T50 t13001 0).f1, (rd_T50 t13001 0).f2, (rd_T50 t13001 0).f3⟩ : S50) )) (Reps.none _ _)))
                    intro v13017 w23 ho24 hb hg_ hnew_
                    have HS0_ := (hb.cell (World.block_lt_of_cell? _ _ (hHeld.1))).trans (hHeld.1)
                    have HS1_ := (hb.cell (World.block_lt_of_cell? _ _ (hHeld.2.1))).trans (hHeld.2.1)
                    have HS2_ := (hb.cell (World.block_lt_of_cell? _ _ (hHeld.2.2.1))).trans (hHeld.2.2.1)
                    have HS3_ := (hb.cell (World.block_lt_of_cell? _ _ (hHeld.2.2.2))).trans (hHeld.2.2.2)
                    clear hg_ hnew_
                    (first | rw [← Ny13016.out] at ho24 | (simp only [Int.reduceToNat] at ho24; rw [← Ny13016.out] at ho24))
                    have n0_ := Aside0.mk (Kd.R_elder' (by (with_reducible repeat (first | apply Kd.R_alloc | apply Kd.R_drewN | apply Kd.R_drew)); exact HO_3.out) (Kd.R_base ho24) hb)
                    have n1_ := Aside0.mk (Kd.R_lower (Kd.R_new' ho24 (Kd.R_lt (by (with_reducible repeat (first | apply Kd.R_alloc | apply Kd.R_drewN | apply Kd.R_drew)); exact HO_3.out))) (below_size (by repeat (first | (with_reducible first | exact HB.out | apply below_alloc | apply pw_below_drewN | apply below_drew1) | exact HB.out))))
                    have n2_ := Aside0.mk (below_step (by repeat (first | (with_reducible first | exact HB.out | apply below_alloc | apply pw_below_drewN | apply below_drew1) | exact HB.out)) hb)
                    clear HO_3
                    clear HB
                    have HO_3 := n0_
                    have HO13018 := n1_
                    have HB := n2_
                    clear n0_ n1_ n2_
                    clear hb ho24
                    refine hK.out _ _ ⟨HS0_, HS1_, HS2_, HS3_⟩ (fun hHeld => ?_)
                    clear hK K
                    refine norm_ (a' := ?_) ?_ ?_
                    rotate_left
                    · show Act.put _ (some 47) _ = _
                      simp only [Act.put, List.setIfInBounds_toArray, List.set_cons_zero, List.set_cons_succ, i64_w, i32_w]
                      rfl
                    refine one_ (i := 0) (N := some 41) #[true, true, false, true, true, true, true, false, true, true, false, false, false] rfl rfl (one_of HT_.out (by kernel_rfl)) (by decide) (fun K hK => ?_)
                    refine Kd.R_lit_step k50 _ 50 ?hg (N := 41) ?hd (xs := ([] : List (S50))) (inner := []) (ok := fun _ => True) (okp := fun _ => True) ?hr ?hp (fun _ hk => hk) trivial (Below.refl _ _) (Nat.le_refl _) (by simp) ?_; (case hd => rfl); (case hg => rfl); (case hr => first | (go_simp; done) | (go_simp; rfl)); (case hp => exact (Reps.none _ _))
                    intro v13010 w25 ho26 hb hg_ hnew_
                    have HS0_ := (hb.cell (World.block_lt_of_cell? _ _ (hHeld.1))).trans (hHeld.1)
                    have HS1_ := (hb.cell (World.block_lt_of_cell? _ _ (hHeld.2.1))).trans (hHeld.2.1)
                    have HS2_ := (hb.cell (World.block_lt_of_cell? _ _ (hHeld.2.2.1))).trans (hHeld.2.2.1)
                    have HS3_ := (hb.cell (World.block_lt_of_cell? _ _ (hHeld.2.2.2))).trans (hHeld.2.2.2)
                    clear hg_ hnew_
                    (first | rw [← Ny13009.out] at ho26 | (simp only [Int.reduceToNat] at ho26; rw [← Ny13009.out] at ho26))
                    have n0_ := Aside0.mk (Kd.R_elder' (by (with_reducible repeat (first | apply Kd.R_alloc | apply Kd.R_drewN | apply Kd.R_drew)); exact HO_3.out) (Kd.R_base ho26) hb)
                    have n1_ := Aside0.mk (Kd.R_elder' (by (with_reducible repeat (first | apply Kd.R_alloc | apply Kd.R_drewN | apply Kd.R_drew)); exact HO13018.out) (Kd.R_base ho26) hb)
                    have n2_ := Aside0.mk (Kd.R_lower (Kd.R_new' (Kd.R_new' ho26 (Kd.R_lt (by (with_reducible repeat (first | apply Kd.R_alloc | apply Kd.R_drewN | apply Kd.R_drew)); exact HO_3.out))) (Kd.R_lt (by (with_reducible repeat (first | apply Kd.R_alloc | apply Kd.R_drewN | apply Kd.R_drew)); exact HO13018.out))) (below_size (by repeat (first | (with_reducible first | exact HB.out | apply below_alloc | apply pw_below_drewN | apply below_drew1) | exact HB.out))))
                    have n3_ := Aside0.mk (below_step (by repeat (first | (with_reducible first | exact HB.out | apply below_alloc | apply pw_below_drewN | apply below_drew1) | exact HB.out)) hb)
                    clear HO_3
                    clear HO13018
                    clear HB
                    have HO_3 := n0_
                    have HO13018 := n1_
                    have HO13011 := n2_
                    have HB := n3_
                    clear n0_ n1_ n2_ n3_
                    clear hb ho26
                    refine hK.out _ _ ⟨HS0_, HS1_, HS2_, HS3_⟩ (fun hHeld => ?_)
                    clear hK K
                    refine norm_ (a' := ?_) ?_ ?_
                    rotate_left
                    · show Act.put _ (some 41) _ = _
                      simp only [Act.put, List.setIfInBounds_toArray, List.set_cons_zero, List.set_cons_succ, i64_w, i32_w]
                      rfl
                    refine one_ (i := 2) (N := some 43) #[true, true, true, true, true, true, true, false, true, true, false, false, false] rfl rfl (one_of HT_.out (by kernel_rfl)) (by decide) (fun K hK => ?_)
                    refine Kd.R_append_rows_step k50 (w0 := w) w.heap.size (by rfl) (.tmp 41) (.tmp 42) 27 50 (.agg #[(.int .i64 0), (.int .i64 0), (.int .i64 0), (.int .i64 0)]) 32 rfl Try.underlying27 info50 rfl (by decide) (by omega) v13010 y13009 t13001 _ _ _ (fun k_ => some k_ ≠ (.slice (some ad13015) t13001.length co7 : Value).ownBlock ∧ some k_ ≠ (v13017 : Value).ownBlock) (fun _ => False) rfl rfl ?aO ?aR (fun _ _ h => h) (fun _ h => h.elim) ?aF ?aB ?aS ?aL ?_
                    (case aR => repeat (first | exact (Kd.R_reads' HO_3.out).2.2 | (with_reducible refine Kd.C_alloc ?_ _) | (with_reducible refine Kd.C_drewN ?_ _) | (with_reducible refine Kd.C_drew ?_)))
                    (case aB => exact (by repeat (first | (with_reducible first | exact HB.out | apply below_alloc | apply pw_below_drewN | apply below_drew1) | exact HB.out)))
                    (case aF => exact (fun k_ hk => ⟨Kd.fresh' (Kd.R_lt (by (with_reducible repeat (first | apply Kd.R_alloc | apply Kd.R_drewN | apply Kd.R_drew)); exact HO_3.out)) k_ hk, Kd.fresh' (Kd.R_lt (by (with_reducible repeat (first | apply Kd.R_alloc | apply Kd.R_drewN | apply Kd.R_drew)); exact HO13018.out)) k_ hk⟩))
                    (case aO => exact (by (with_reducible repeat (first | apply Kd.R_alloc | apply Kd.R_drewN | apply Kd.R_drew)); exact Kd.R_mono HO13011.out (fun _ hk => ⟨hk.1.2, hk.2⟩)))
                    (case aS => exact (below_size (by repeat (first | (with_reducible first | exact HB.out | apply below_alloc | apply pw_below_drewN | apply below_drew1) | exact HB.out))))
                    (case aL => have := LMc18.out; omega)
                    intro v13013 w27 ho hb hg hat
                    have HS0_ := cell_grown hg (hHeld.1) (by first | (rw [add_block]; exact (by intro e_; have z_ := HO13011.out.1 _ e_.symm; first | exact z_ rfl | exact z_.1 rfl | exact z_.2 rfl | exact z_.1.1 rfl | exact z_.1.2 rfl | exact z_.2.1 rfl | exact z_.2.2 rfl)) | (show some (Addr.add _ _).block ≠ _; rw [add_block]; exact (by intro e_; have z_ := HO13011.out.1 _ e_.symm; first | exact z_ rfl | exact z_.1 rfl | exact z_.2 rfl | exact z_.1.1 rfl | exact z_.1.2 rfl | exact z_.2.1 rfl | exact z_.2.2 rfl)) | exact (by intro e_; have z_ := HO13011.out.1 _ e_.symm; first | exact z_ rfl | exact z_.1 rfl | exact z_.2 rfl | exact z_.1.1 rfl | exact z_.1.2 rfl | exact z_.2.1 rfl | exact z_.2.2 rfl))
                    have HS1_ := cell_grown hg (hHeld.2.1) (by first | (rw [add_block]; exact (by intro e_; have z_ := HO13011.out.1 _ e_.symm; first | exact z_ rfl | exact z_.1 rfl | exact z_.2 rfl | exact z_.1.1 rfl | exact z_.1.2 rfl | exact z_.2.1 rfl | exact z_.2.2 rfl)) | (show some (Addr.add _ _).block ≠ _; rw [add_block]; exact (by intro e_; have z_ := HO13011.out.1 _ e_.symm; first | exact z_ rfl | exact z_.1 rfl | exact z_.2 rfl | exact z_.1.1 rfl | exact z_.1.2 rfl | exact z_.2.1 rfl | exact z_.2.2 rfl)) | exact (by intro e_; have z_ := HO13011.out.1 _ e_.symm; first | exact z_ rfl | exact z_.1 rfl | exact z_.2 rfl | exact z_.1.1 rfl | exact z_.1.2 rfl | exact z_.2.1 rfl | exact z_.2.2 rfl))
                    have HS2_ := cell_grown hg (hHeld.2.2.1) (by first | (rw [add_block]; exact (by intro e_; have z_ := HO13011.out.1 _ e_.symm; first | exact z_ rfl | exact z_.1 rfl | exact z_.2 rfl | exact z_.1.1 rfl | exact z_.1.2 rfl | exact z_.2.1 rfl | exact z_.2.2 rfl)) | (show some (Addr.add _ _).block ≠ _; rw [add_block]; exact (by intro e_; have z_ := HO13011.out.1 _ e_.symm; first | exact z_ rfl | exact z_.1 rfl | exact z_.2 rfl | exact z_.1.1 rfl | exact z_.1.2 rfl | exact z_.2.1 rfl | exact z_.2.2 rfl)) | exact (by intro e_; have z_ := HO13011.out.1 _ e_.symm; first | exact z_ rfl | exact z_.1 rfl | exact z_.2 rfl | exact z_.1.1 rfl | exact z_.1.2 rfl | exact z_.2.1 rfl | exact z_.2.2 rfl))
                    have HS3_ := cell_grown hg (hHeld.2.2.2) (by first | (rw [add_block]; exact (by intro e_; have z_ := HO13011.out.1 _ e_.symm; first | exact z_ rfl | exact z_.1 rfl | exact z_.2 rfl | exact z_.1.1 rfl | exact z_.1.2 rfl | exact z_.2.1 rfl | exact z_.2.2 rfl)) | (show some (Addr.add _ _).block ≠ _; rw [add_block]; exact (by intro e_; have z_ := HO13011.out.1 _ e_.symm; first | exact z_ rfl | exact z_.1 rfl | exact z_.2 rfl | exact z_.1.1 rfl | exact z_.1.2 rfl | exact z_.2.1 rfl | exact z_.2.2 rfl)) | exact (by intro e_; have z_ := HO13011.out.1 _ e_.symm; first | exact z_ rfl | exact z_.1 rfl | exact z_.2 rfl | exact z_.1.1 rfl | exact z_.1.2 rfl | exact z_.2.1 rfl | exact z_.2.2 rfl))
                    rw [← Ny13012.out] at ho
                    have n0_ := Aside0.mk (Kd.R_after (ok := (fun k_ => some k_ ≠ (v13017 : Value).ownBlock)) (by (with_reducible repeat (first | apply Kd.R_alloc | apply Kd.R_drewN | apply Kd.R_drew)); exact Kd.R_mono HO_3.out (fun _ hk => ⟨hk.1.2, hk.2⟩)) hg hat)
                    have n1_ := Aside0.mk (Kd.R_after (ok := (fun k_ => some k_ ≠ (.slice (some ad13015) t13001.length co7 : Value).ownBlock)) (by (with_reducible repeat (first | apply Kd.R_alloc | apply Kd.R_drewN | apply Kd.R_drew)); exact Kd.R_mono HO13018.out (fun _ hk => ⟨hk.1.2, hk.2⟩)) hg hat)
                    have n2_ := Aside0.mk (hb)
                    have n3_ := Aside0.mk (ho)
                    clear HO_3
                    clear HO13018
                    clear HB
                    clear HO13011
                    have HO_3 := n0_
                    have HO13018 := n1_
                    have HB := n2_
                    have HO13014 := n3_
                    clear n0_ n1_ n2_ n3_
                    clear ho hb hg hat
                    refine hK.out _ _ ⟨HS0_, HS1_, HS2_, HS3_⟩ (fun hHeld => ?_)
                    clear hK K
                    refine norm_ (a' := ?_) ?_ ?_
                    rotate_left
                    · show Act.put _ (some 43) _ = _
                      simp only [Act.put, List.setIfInBounds_toArray, List.set_cons_zero, List.set_cons_succ, i64_w, i32_w]
                      rfl
                    exact norm_ (by simp only [putAll, Act.put, List.setIfInBounds_toArray, List.set_cons_zero, List.set_cons_succ]) (hCont (v13010, v13013, v13017) _ ⟨hHeld, (by (with_reducible repeat (first | apply Kd.R_alloc | apply Kd.R_drewN | apply Kd.R_drew)); exact Kd.R_mono HO13014.out (fun _ hk => ⟨hk.2, hk.1⟩)), (by (with_reducible repeat (first | apply Kd.R_alloc | apply Kd.R_drewN | apply Kd.R_drew)); exact Kd.R_mono HO13018.out (fun _ hk => ⟨hk.2, hk.1⟩)), (by (with_reducible repeat (first | apply Kd.R_alloc | apply Kd.R_drewN | apply Kd.R_drew)); exact Kd.R_mono HO_3.out (fun _ hk => ⟨hk.2, hk.1⟩)), (by repeat (first | (with_reducible first | exact HB.out | apply below_alloc | apply pw_below_drewN | apply below_drew1) | exact HB.out))⟩)
                rintro ⟨v13010, v13013, v13017⟩ w28 ⟨hS_, h0_, h1_, h2_, h3_⟩
                have n0_ : Aside0 (Kd.R k50 50 w28 w.heap.size (fun k_ => some k_ ≠ (v13017 : Value).ownBlock ∧ some k_ ≠ (.slice (some ad13015) t13001.length co7 : Value).ownBlock) v13013 y13012) := ⟨h0_⟩
                have n1_ : Aside0 (Kd.R k50 50 w28 w.heap.size (fun k_ => some k_ ≠ (v13013 : Value).ownBlock ∧ some k_ ≠ (.slice (some ad13015) t13001.length co7 : Value).ownBlock) v13017 y13016) := ⟨h1_⟩
                have n2_ : Aside0 (Kd.R k50 50 w28 w.heap.size (fun k_ => some k_ ≠ (v13013 : Value).ownBlock ∧ some k_ ≠ (v13017 : Value).ownBlock) (.slice (some ad13015) t13001.length co7) t13001) := ⟨h2_⟩
                have n3_ : Aside0 (Below w.heap.size w w28) := ⟨h3_⟩
                clear HO_3
                clear HB
                clear h0_ h1_ h2_ h3_
                have HO13014 := n0_
                have HO13018 := n1_
                have HO_3 := n2_
                have HB := n3_
                clear n0_ n1_ n2_ n3_
                have hHeld : w28.cell? ad13015 = some (.int .i64 ((rd_T50 t13001 0).f0)) ∧ w28.cell? ⟨ad13015.block, ad13015.off + 1, none⟩ = some (.int .i64 ((rd_T50 t13001 0).f1)) ∧ w28.cell? ⟨ad13015.block, ad13015.off + 2, none⟩ = some (.int .i64 ((rd_T50 t13001 0).f2)) ∧ w28.cell? ⟨ad13015.block, ad13015.off + 3, none⟩ = some (.int .i64 ((rd_T50 t13001 0).f3)) := hS_
                obtain ⟨Ao30, co30, eo30⟩ := Kd.R_slice HO13018.out
                (first | subst eo30 | (injection eo30 with f1_ f2_ f3_; have f4_ := f1_.symm; have f5_ := f3_.symm; clear f1_ f2_ f3_; subst f4_; subst f5_))
                refine norm_ (a' := ?_) ?_ ?_
                rotate_left
                · simp only [putAll, Act.put, List.setIfInBounds_toArray, List.set_cons_zero, List.set_cons_succ]
                  rfl
                refine one_ (i := 7) (N := some 48) #[true, true, true, true, true, true, true, true, true, true, false, false, false] rfl rfl (one_of HT_.out (by kernel_rfl)) (by decide) (fun K hK => ?_)
                refine Kd.R_append_rows_step k50 (w0 := w) w.heap.size (by rfl) (.tmp 43) (.tmp 47) 27 50 (.agg #[(.int .i64 0), (.int .i64 0), (.int .i64 0), (.int .i64 0)]) 32 rfl Try.underlying27 info50 rfl (by decide) (by omega) v13013 y13012 y13016 _ _ _ (fun k_ => some k_ ≠ (.slice (some ad13015) t13001.length co7 : Value).ownBlock ∧ some k_ ≠ (.slice Ao30 y13016.length co30 : Value).ownBlock) (fun _ => False) rfl rfl ?aO ?aR (fun _ _ h => h) (fun _ h => h.elim) ?aF ?aB ?aS ?aL ?_
                (case aR => repeat (first | exact (Kd.R_reads' HO13018.out).2.2 | (with_reducible refine Kd.C_alloc ?_ _) | (with_reducible refine Kd.C_drewN ?_ _) | (with_reducible refine Kd.C_drew ?_)))
                (case aB => exact (by repeat (first | (with_reducible first | exact HB.out | apply below_alloc | apply pw_below_drewN | apply below_drew1) | exact HB.out)))
                (case aF => exact (fun k_ hk => ⟨Kd.fresh' (Kd.R_lt (by (with_reducible repeat (first | apply Kd.R_alloc | apply Kd.R_drewN | apply Kd.R_drew)); exact HO_3.out)) k_ hk, Kd.fresh' (Kd.R_lt (by (with_reducible repeat (first | apply Kd.R_alloc | apply Kd.R_drewN | apply Kd.R_drew)); exact HO13018.out)) k_ hk⟩))
                (case aO => exact (by (with_reducible repeat (first | apply Kd.R_alloc | apply Kd.R_drewN | apply Kd.R_drew)); exact Kd.R_mono HO13014.out (fun _ hk => ⟨hk.2, hk.1⟩)))
                (case aS => exact (below_size (by repeat (first | (with_reducible first | exact HB.out | apply below_alloc | apply pw_below_drewN | apply below_drew1) | exact HB.out))))
                (case aL => have := LMc20.out; omega)
                intro v13020 w29 ho hb hg hat
                have HS0_ := cell_grown hg (hHeld.1) (by first | (rw [add_block]; exact (by intro e_; have z_ := HO13014.out.1 _ e_.symm; first | exact z_ rfl | exact z_.1 rfl | exact z_.2 rfl | exact z_.1.1 rfl | exact z_.1.2 rfl | exact z_.2.1 rfl | exact z_.2.2 rfl)) | (show some (Addr.add _ _).block ≠ _; rw [add_block]; exact (by intro e_; have z_ := HO13014.out.1 _ e_.symm; first | exact z_ rfl | exact z_.1 rfl | exact z_.2 rfl | exact z_.1.1 rfl | exact z_.1.2 rfl | exact z_.2.1 rfl | exact z_.2.2 rfl)) | exact (by intro e_; have z_ := HO13014.out.1 _ e_.symm; first | exact z_ rfl | exact z_.1 rfl | exact z_.2 rfl | exact z_.1.1 rfl | exact z_.1.2 rfl | exact z_.2.1 rfl | exact z_.2.2 rfl))
                have HS1_ := cell_grown hg (hHeld.2.1) (by first | (rw [add_block]; exact (by intro e_; have z_ := HO13014.out.1 _ e_.symm; first | exact z_ rfl | exact z_.1 rfl | exact z_.2 rfl | exact z_.1.1 rfl | exact z_.1.2 rfl | exact z_.2.1 rfl | exact z_.2.2 rfl)) | (show some (Addr.add _ _).block ≠ _; rw [add_block]; exact (by intro e_; have z_ := HO13014.out.1 _ e_.symm; first | exact z_ rfl | exact z_.1 rfl | exact z_.2 rfl | exact z_.1.1 rfl | exact z_.1.2 rfl | exact z_.2.1 rfl | exact z_.2.2 rfl)) | exact (by intro e_; have z_ := HO13014.out.1 _ e_.symm; first | exact z_ rfl | exact z_.1 rfl | exact z_.2 rfl | exact z_.1.1 rfl | exact z_.1.2 rfl | exact z_.2.1 rfl | exact z_.2.2 rfl))
                have HS2_ := cell_grown hg (hHeld.2.2.1) (by first | (rw [add_block]; exact (by intro e_; have z_ := HO13014.out.1 _ e_.symm; first | exact z_ rfl | exact z_.1 rfl | exact z_.2 rfl | exact z_.1.1 rfl | exact z_.1.2 rfl | exact z_.2.1 rfl | exact z_.2.2 rfl)) | (show some (Addr.add _ _).block ≠ _; rw [add_block]; exact (by intro e_; have z_ := HO13014.out.1 _ e_.symm; first | exact z_ rfl | exact z_.1 rfl | exact z_.2 rfl | exact z_.1.1 rfl | exact z_.1.2 rfl | exact z_.2.1 rfl | exact z_.2.2 rfl)) | exact (by intro e_; have z_ := HO13014.out.1 _ e_.symm; first | exact z_ rfl | exact z_.1 rfl | exact z_.2 rfl | exact z_.1.1 rfl | exact z_.1.2 rfl | exact z_.2.1 rfl | exact z_.2.2 rfl))
                have HS3_ := cell_grown hg (hHeld.2.2.2) (by first | (rw [add_block]; exact (by intro e_; have z_ := HO13014.out.1 _ e_.symm; first | exact z_ rfl | exact z_.1 rfl | exact z_.2 rfl | exact z_.1.1 rfl | exact z_.1.2 rfl | exact z_.2.1 rfl | exact z_.2.2 rfl)) | (show some (Addr.add _ _).block ≠ _; rw [add_block]; exact (by intro e_; have z_ := HO13014.out.1 _ e_.symm; first | exact z_ rfl | exact z_.1 rfl | exact z_.2 rfl | exact z_.1.1 rfl | exact z_.1.2 rfl | exact z_.2.1 rfl | exact z_.2.2 rfl)) | exact (by intro e_; have z_ := HO13014.out.1 _ e_.symm; first | exact z_ rfl | exact z_.1 rfl | exact z_.2 rfl | exact z_.1.1 rfl | exact z_.1.2 rfl | exact z_.2.1 rfl | exact z_.2.2 rfl))
                rw [← Ny13019.out] at ho
                have n0_ := Aside0.mk (Kd.R_after (ok := (fun k_ => some k_ ≠ (.slice Ao30 y13016.length co30 : Value).ownBlock)) (by (with_reducible repeat (first | apply Kd.R_alloc | apply Kd.R_drewN | apply Kd.R_drew)); exact Kd.R_mono HO_3.out (fun _ hk => ⟨hk.2, hk.1⟩)) hg hat)
                have n1_ := Aside0.mk (Kd.R_after (ok := (fun k_ => some k_ ≠ (.slice (some ad13015) t13001.length co7 : Value).ownBlock)) (by (with_reducible repeat (first | apply Kd.R_alloc | apply Kd.R_drewN | apply Kd.R_drew)); exact Kd.R_mono HO13018.out (fun _ hk => ⟨hk.2, hk.1⟩)) hg hat)
                have n2_ := Aside0.mk (hb)
                have n3_ := Aside0.mk (ho)
                clear HO_3
                clear HO13018
                clear HB
                clear HO13014
                have HO_3 := n0_
                have HO13018 := n1_
                have HB := n2_
                have HO13021 := n3_
                clear n0_ n1_ n2_ n3_
                clear ho hb hg hat
                obtain ⟨Ao31, co31, eo31⟩ := Kd.R_slice HO13021.out
                (first | subst eo31 | (injection eo31 with f1_ f2_ f3_; have f4_ := f1_.symm; have f5_ := f3_.symm; clear f1_ f2_ f3_; subst f4_; subst f5_))
                refine hK.out _ _ ⟨HS0_, HS1_, HS2_, HS3_⟩ (fun hHeld => ?_)
                clear hK K
                refine norm_ (a' := ?_) ?_ ?_
                rotate_left
                · show Act.put _ (some 48) _ = _
                  simp only [Act.put, List.setIfInBounds_toArray, List.set_cons_zero, List.set_cons_succ, i64_w, i32_w]
                  rfl
                refine one_ (i := 10) (N := some 51) #[true, true, true, true, true, true, true, true, true, true, true, false, false] rfl rfl (one_of HT_.out (by kernel_rfl)) (by decide) (fun K hK => ?_)
                refine goes_ Try.func22 (by kernel_rfl) rfl #[.slice Ao31 y13019.length co31, .int .i64 t13002, .int .i64 t13003] (by rfl) rfl rfl (by (try simp only [List.map_toArray, List.map_cons, List.map_nil]); first | done | rfl | (simp only [List.length_drop, List.length_take]; rfl)) ?_
                with_reducible refine (impl_ValidPacking.calls kj4 _ _ y13019 t13002 t13003 t13022 _ ?side1 ?side2 A21.out).mono ?_
                (case side1 => repeat (first | exact (Kd.R_reads' HO13021.out).2.2 | (with_reducible refine Kd.C_alloc ?_ _) | (with_reducible refine Kd.C_drewN ?_ _) | (with_reducible refine Kd.C_drew ?_)))
                (case side2 => exact (Kd.R_reads' HO13021.out).2.1)
                rintro e w32 ⟨rfl, hb⟩
                have HS0_ := (hb.cell (World.block_lt_of_cell? _ _ (hHeld.1))).trans (hHeld.1)
                have HS1_ := (hb.cell (World.block_lt_of_cell? _ _ (hHeld.2.1))).trans (hHeld.2.1)
                have HS2_ := (hb.cell (World.block_lt_of_cell? _ _ (hHeld.2.2.1))).trans (hHeld.2.2.1)
                have HS3_ := (hb.cell (World.block_lt_of_cell? _ _ (hHeld.2.2.2))).trans (hHeld.2.2.2)
                refine ⟨_, rfl, ?_⟩
                have n0_ := Aside0.mk (Kd.R_below (by (with_reducible repeat (first | apply Kd.R_alloc | apply Kd.R_drewN | apply Kd.R_drew)); exact HO_3.out) hb)
                have n1_ := Aside0.mk (Kd.R_below (by (with_reducible repeat (first | apply Kd.R_alloc | apply Kd.R_drewN | apply Kd.R_drew)); exact HO13018.out) hb)
                have n2_ := Aside0.mk (Kd.R_below (by (with_reducible repeat (first | apply Kd.R_alloc | apply Kd.R_drewN | apply Kd.R_drew)); exact HO13021.out) hb)
                have n3_ := Aside0.mk (below_step (by repeat (first | (with_reducible first | exact HB.out | apply below_alloc | apply pw_below_drewN | apply below_drew1) | exact HB.out)) hb)
                clear HO_3
                clear HO13018
                clear HO13021
                clear HB
                have HO_3 := n0_
                have HO13018 := n1_
                have HO13021 := n2_
                have HB := n3_
                clear n0_ n1_ n2_ n3_
                (try clear hb)
                (try clear hb2)
                (try clear hk)
                (try clear hi)
                refine hK.out _ _ ⟨HS0_, HS1_, HS2_, HS3_⟩ (fun hHeld => ?_)
                clear hK K
                refine norm_ (a' := ?_) ?_ ?_
                rotate_left
                · show Act.put _ (some 51) _ = _
                  simp only [Act.put, List.setIfInBounds_toArray, List.set_cons_zero, List.set_cons_succ, i64_w, i32_w]
                  rfl
                refine pure_ (i := 11) (N := some 52) (v := ?_) (a' := ?_) #[true, true, true, true, true, true, true, true, true, true, true, true, false] rfl rfl (any_of HT_.out (by kernel_rfl)) (fun _ _ _ h => h) (Or.inl ⟨by rfl, ?_⟩) ?_ ?_
                rotate_left
                · intro w'
                  go_simp
                  with_reducible rfl
                rotate_left
                · simp only [Act.put, List.setIfInBounds_toArray, List.set_cons_zero, List.set_cons_succ, i64_w, i32_w]
                  rfl
                refine pure_ (i := 12) (N := some 2) (v := ?_) (a' := ?_) #[true, true, true, true, true, true, true, true, true, true, true, true, true] rfl rfl (any_of HT_.out (by kernel_rfl)) (fun _ _ _ h => h) (Or.inl ⟨by rfl, ?_⟩) ?_ ?_
                rotate_left
                · intro w'
                  go_simp
                  with_reducible rfl
                rotate_left
                · simp only [Act.put, List.setIfInBounds_toArray, List.set_cons_zero, List.set_cons_succ, i64_w, i32_w]
                  rfl
                refine done_ (done_of HT_.out (by kernel_rfl)) ?_
                try go_wp2
                go_ret
                exact ⟨by first | rfl | (simp [errW_none, errW_some] <;> rfl) | (simp [*, errW_none, errW_some] <;> rfl), by repeat (first | (with_reducible first | exact HB.out | apply below_alloc | apply pw_below_drewN | apply below_drew1) | exact HB.out)⟩
              · rw [if_neg c20] at H
                exact absurd H (by simp)
            · rw [if_neg c19] at H
              exact absurd H (by simp)
          · rw [if_neg c18] at H
            exact absurd H (by simp)

/-- THE ONE PURE STATEMENT of laws_FnValidPackingTwice: yours. -/
def laws_FnValidPackingTwice.Pure : Prop := ∀ (l0 : List Int), l0.length ≤ maxLen → l0.length * 1 ≤ 140737488351232 → (∀ x ∈ l0, (Lit.int .u8 x).wf = true) → ∃ k, laws_FnValidPackingTwice.f k l0 = some true
theorem laws_FnValidPackingTwice.walk (P : laws_FnValidPackingTwice.Pure) (a0 : Option Addr) (len0 cap0 : Nat) (z0 : List Int) (w : World) (w0 : (a0 = none ∧ len0 = 0 ∧ cap0 = 0 ∧ z0 = []) ∨ ∃ x, a0 = some x ∧ len0 ≤ cap0 ∧ cap0 ≤ maxLen ∧ z0.length = cap0 ∧ (∀ i, i < z0.length → w.cell? (x.add i) = some (.int .u8 (z0.getD i 0))) ∧ ∀ n ∈ z0, (Lit.int .u8 n).wf = true) (y0 : len0 * 1 ≤ 140737488351232) :
    Calls Try.prog 12 #[.slice a0 len0 cap0] w fun e w' => e = .returned (.bool true) ∧ Below w.heap.size w w' := by
  obtain ⟨l0, rfl, hr0, hm0, hw0, hc0⟩ := ReadsInt.ofRowC w0
  obtain ⟨k, h⟩ := P l0 hm0 y0 hw0
  refine (laws_FnValidPackingTwice.calls k _ _ l0 true w (Kd.C_of_reads (d := (0 : Int)) (h1 := fun _ => rfl) hr0) hc0 h rfl).mono ?_
  rintro e w' ⟨rfl, hd⟩
  exact ⟨rfl, hd⟩


/- Words of this session's own hand-made walks: where the first element lies for which a test holds; draws that follow each other. -/

/-- p fails at all that lies before k -/
def SawNone {α : Type} (p : α → Bool) (l : List α) (k : Nat) : Prop := ∀ j, j < k → ∀ h : j < l.length, p l[j] = false
theorem SawNone.succ {α : Type} {p : α → Bool} {l : List α} {k : Nat} (h : SawNone p l k) (hk : k < l.length) (hp : p l[k] = false) : SawNone p l (k + 1) := by
  intro j hj hl
  by_cases e : j = k
  · subst e; exact hp
  · exact h j (by omega) hl
end Go.Proofs.Ytgfjccegehnjcaa.Q

/- Plain words: numbers that do not wrap, elements of lists, rounds that are enough. -/
namespace Go.Proofs.Ytgfjccegehnjcaa.Pure
open Go.RowKit Go.Proofs.Ytgfjccegehnjcaa.Q Go.Proofs.YtgfjccegehnjcaaW.PrintWords Go.Proofs.YtgfjccegehnjcaaW.PrintLast Go.Proofs.YtgfjccegehnjcaaW.PrintMore
set_option linter.unusedVariables false
set_option linter.unusedSimpArgs false

theorem w64 {x : Int} (h1 : -9223372036854775808 ≤ x) (h2 : x ≤ 9223372036854775807) : wrap64 x = x := by unfold wrap64; omega
theorem w64n (n : Nat) (h : n < 9223372036854775807) : wrap64 ((n : Int) + 1) = ((n + 1 : Nat) : Int) := by unfold wrap64; omega
theorem rd_nat (l : List Int) (i : Nat) (h : i < l.length) : rd l (i : Int) = l[i] := by simp [rd, h]
theorem tdiv_nn (a b : Int) (h : 0 ≤ a) : Int.tdiv a b = a / b := Int.tdiv_eq_ediv_of_nonneg h
theorem tmod_nn (a b : Int) (h : 0 ≤ a) : Int.tmod a b = a % b := Int.tmod_eq_emod_of_nonneg h
/-- From K rounds on. -/
theorem ev_of {α : Type} {g : Nat → Option α} {r : α} (K : Nat) (h : ∀ k, K < k → g k = some r) : Ev g r := ⟨K + 1, fun k hk => h k (by omega)⟩
theorem ev_const {α : Type} {o : Option α} {r : α} (h : o = some r) : Ev (fun _ => o) r := ⟨0, fun _ _ => h⟩
theorem ev_bind {α β : Type} {g : Nat → Option α} {f : Nat → α → Option β} {a : α} {r : β} (h : Ev g a) (k : Ev (fun n => f n a) r) : Ev (fun n => (g n).bind (f n)) r := Ev.bind h k
theorem ev_now {α β : Type} {o : Option α} {f : Nat → α → Option β} {a : α} {r : β} (h : o = some a) (k : Ev (fun n => f n a) r) : Ev (fun n => o.bind (f n)) r := Ev.bind (ev_const h) k
theorem ev_pos {α : Type} {c : Prop} [Decidable c] {f g : Nat → Option α} {r : α} (h : c) (k : Ev f r) : Ev (fun n => if c then f n else g n) r := by
  simpa [h] using k
theorem ev_neg {α : Type} {c : Prop} [Decidable c] {f g : Nat → Option α} {r : α} (h : ¬ c) (k : Ev g r) : Ev (fun n => if c then f n else g n) r := by
  simpa [h] using k
/-- A loop that counts up to n: what it answers from i on. -/
theorem loop_up {σ ρ : Type} (K n : Nat) (L : Nat → Nat → σ → Option ρ) (Inv : Nat → σ → Prop) (F : Nat → σ → ρ)
    (step : ∀ i s k, i < n → Inv i s → K ≤ k → (L (k + 1) i s = some (F i s)) ∨ ∃ s', L (k + 1) i s = L k (i + 1) s' ∧ Inv (i + 1) s' ∧ F (i + 1) s' = F i s)
    (last : ∀ s k, Inv n s → K ≤ k → L (k + 1) n s = some (F n s)) :
    ∀ d i s k, i + d = n → Inv i s → K + d < k → L k i s = some (F i s) := by
  intro d
  induction d with
  | zero =>
    intro i s k hi hinv hk
    obtain ⟨k, rfl⟩ : ∃ m, k = m + 1 := ⟨k - 1, by omega⟩
    have : i = n := by omega
    subst this
    exact last s k hinv (by omega)
  | succ d ih =>
    intro i s k hi hinv hk
    obtain ⟨k, rfl⟩ : ∃ m, k = m + 1 := ⟨k - 1, by omega⟩
    rcases step i s k (by omega) hinv (by omega) with h | ⟨s', h, hi', hF⟩
    · exact h
    · rw [h, ih (i + 1) s' k (by omega) hi' (by omega), hF]
/-- The same, from some number of rounds on: for loops in loops. -/
theorem ev_up {σ ρ : Type} (n : Nat) (L : Nat → Nat → σ → Option ρ) (Inv : Nat → σ → Prop) (F : Nat → σ → ρ)
    (step : ∀ i s, i < n → Inv i s → Ev (fun k => L k i s) (F i s) ∨ ∃ s', (∀ k, L (k + 1) i s = L k (i + 1) s') ∧ Inv (i + 1) s' ∧ F (i + 1) s' = F i s)
    (last : ∀ s, Inv n s → Ev (fun k => L k n s) (F n s)) :
    ∀ d i s, i + d = n → Inv i s → Ev (fun k => L k i s) (F i s) := by
  intro d
  induction d with
  | zero =>
    intro i s hi hinv
    have : i = n := by omega
    subst this
    exact last s hinv
  | succ d ih =>
    intro i s hi hinv
    rcases step i s (by omega) hinv with h | ⟨s', h, hi', hF⟩
    · exact h
    · rw [← hF]
      exact Ev.step h (ih (i + 1) s' (by omega) hi')
theorem ev_val {α : Type} {g : Nat → Option α} {r r' : α} (h : Ev g r) (e : r = r') : Ev g r' := e ▸ h
theorem take_set {α : Type} (s : List α) (i : Nat) (c : α) (h : i < s.length) : (s.set i c).take (i + 1) = s.take i ++ [c] := by
  rw [List.take_succ_eq_append_getElem (by simpa using h), List.take_set_of_le (Nat.le_refl i)]
  simp

/- Copies of a list of Box: they are the list. -/

abbrev Box := S50
theorem rdBox (l : List Box) (i : Nat) (h : i < l.length) : rd_T50 l (i : Int) = l[i] := by simp [rd_T50, h]

/- Packings: what the program and the reference take for one. -/

theorem inRangeP (n a b : Int) : spec_inRange.f n a b = some (decide (a ≤ n) && decide (n ≤ b)) := by
  unfold spec_inRange.f; by_cases h : a ≤ n <;> simp [h]
/-- A box lies in an atlas. -/
def boxIn (w h : Int) (b : Box) : Bool := decide (0 ≤ b.f0) && decide (0 ≤ b.f1) && decide (1 ≤ b.f2) && decide (1 ≤ b.f3) && decide (b.f0 + b.f2 ≤ w) && decide (b.f1 + b.f3 ≤ h)
theorem boxIn_iff (w h : Int) (b : Box) : boxIn w h b = true ↔ 0 ≤ b.f0 ∧ 0 ≤ b.f1 ∧ 1 ≤ b.f2 ∧ 1 ≤ b.f3 ∧ b.f0 + b.f2 ≤ w ∧ b.f1 + b.f3 ≤ h := by simp [boxIn, and_assoc]
/-- Two boxes have no common pixel. -/
def apartB (a b : Box) : Bool := decide (a.f0 + a.f2 ≤ b.f0) || decide (b.f0 + b.f2 ≤ a.f0) || decide (a.f1 + a.f3 ≤ b.f1) || decide (b.f1 + b.f3 ≤ a.f1)
theorem apartB_iff (a b : Box) : apartB a b = true ↔ a.f0 + a.f2 ≤ b.f0 ∨ b.f0 + b.f2 ≤ a.f0 ∨ a.f1 + a.f3 ≤ b.f1 ∨ b.f1 + b.f3 ≤ a.f1 := by simp [apartB, or_assoc]
def packOKi (w h : Int) (l : List Box) (i : Nat) : Bool := match l[i]? with
  | none => true
  | some b => boxIn w h b && (l.take i).all fun a => apartB a b
/-- All boxes from i on are in the atlas and apart from those before. -/
def packFrom (w h : Int) (l : List Box) (i : Nat) : Bool := (List.range' i (l.length - i)).all (packOKi w h l)
theorem packFrom_end (w h : Int) (l : List Box) : packFrom w h l l.length = true := by simp [packFrom]
theorem packFrom_at (w h : Int) (l : List Box) (i : Nat) (hi : i < l.length) : packFrom w h l i = ((boxIn w h l[i] && (l.take i).all fun a => apartB a l[i]) && packFrom w h l (i + 1)) := by
  unfold packFrom
  rw [show l.length - i = (l.length - (i + 1)) + 1 by omega, List.range'_succ, List.all_cons]
  congr 1
  simp [packOKi, hi]
def atlasOK (l : List Box) (w h : Int) : Bool := decide (1 ≤ w) && decide (w ≤ 64) && decide (0 ≤ h) && decide (h ≤ 192) && decide ((l.length : Int) ≤ 12)
theorem atlasOK_iff (l : List Box) (w h : Int) : atlasOK l w h = true ↔ 1 ≤ w ∧ w ≤ 64 ∧ 0 ≤ h ∧ h ≤ 192 ∧ l.length ≤ 12 := by
  simp [atlasOK, and_assoc]; omega
def packN (l : List Box) (w h : Int) : Bool := atlasOK l w h && packFrom w h l 0

/-- All that stands before is in the atlas. -/
def inAll (w h : Int) (l : List Box) (i : Nat) : Prop := ∀ j (hj : j < l.length), j < i → boxIn w h l[j] = true
theorem impl_l1 (l : List Box) (w h : Int) (r : Bool) (i : Nat) (hi : i < l.length) (hl : l.length ≤ 12) (hw : w ≤ 64) (hh : h ≤ 192) (hin : inAll w h l (i + 1))
    (hnext : Ev (fun k => impl_ValidPacking.l0 k l w h l (l.length : Int) ((i + 1 : Nat) : Int)) r) :
    Ev (fun k => impl_ValidPacking.l1 k l w h l (l.length : Int) (i : Int) (l.take i) ((l.take i).length : Int) 0 l[i].f0 l[i].f1 l[i].f2 l[i].f3) (((l.take i).all fun a => apartB a l[i]) && r) := by
  have hlt : (l.take i).length = i := by rw [List.length_take]; omega
  have hb := (boxIn_iff _ _ _).1 (hin i hi (by omega))
  have hh := ev_up i (fun k j (_ : Unit) => impl_ValidPacking.l1 k l w h l (l.length : Int) (i : Int) (l.take i) ((l.take i).length : Int) (j : Int) l[i].f0 l[i].f1 l[i].f2 l[i].f3) (fun _ _ => True)
    (fun j _ => ((l.take i).drop j).all (fun a => apartB a l[i]) && r)
    (by
      intro j s hj _
      have ha := (boxIn_iff _ _ _).1 (hin j (by omega) (by omega))
      have hg : (l.take i)[j]'(by omega) = l[j]'(by omega) := by simp
      have hd : ((l.take i).drop j).all (fun a => apartB a l[i]) = (apartB (l[j]'(by omega)) l[i] && ((l.take i).drop (j + 1)).all (fun a => apartB a l[i])) := by
        rw [List.drop_eq_getElem_cons (by omega), List.all_cons, hg]
      rw [hd]
      by_cases c : apartB (l[j]'(by omega)) l[i] = true
      · right
        refine ⟨(), fun k => ?_, trivial, by rw [c, Bool.true_and]⟩
        rw [apartB_iff] at c
        simp only [impl_ValidPacking.l1]
        rw [if_pos (by omega), if_pos (by omega), if_pos (by omega), rdBox (l.take i) j (by omega), hg, w64n j (by omega), w64 (x := (l[j]'(by omega)).f0 + (l[j]'(by omega)).f2) (by omega) (by omega), w64 (x := l[i].f0 + l[i].f2) (by omega) (by omega),
          w64 (x := (l[j]'(by omega)).f1 + (l[j]'(by omega)).f3) (by omega) (by omega), w64 (x := l[i].f1 + l[i].f3) (by omega) (by omega)]
        by_cases c1 : l[i].f0 < (l[j]'(by omega)).f0 + (l[j]'(by omega)).f2
        · rw [if_pos c1]
          by_cases c2 : (l[j]'(by omega)).f0 < l[i].f0 + l[i].f2
          · rw [if_pos c2]
            by_cases c3 : l[i].f1 < (l[j]'(by omega)).f1 + (l[j]'(by omega)).f3
            · rw [if_pos c3, if_neg (by omega)]
            · rw [if_neg c3]
          · rw [if_neg c2]
        · rw [if_neg c1]
      · left
        have cf : apartB (l[j]'(by omega)) l[i] = false := by simpa using c
        rw [cf, Bool.false_and, Bool.false_and]
        rw [apartB_iff] at c
        refine Ev.step (f := fun _ => some false) (fun k => ?_) (Ev.now false)
        simp only [impl_ValidPacking.l1]
        rw [if_pos (by omega), if_pos (by omega), if_pos (by omega), rdBox (l.take i) j (by omega), hg, w64 (x := (l[j]'(by omega)).f0 + (l[j]'(by omega)).f2) (by omega) (by omega), w64 (x := l[i].f0 + l[i].f2) (by omega) (by omega),
          w64 (x := (l[j]'(by omega)).f1 + (l[j]'(by omega)).f3) (by omega) (by omega), w64 (x := l[i].f1 + l[i].f3) (by omega) (by omega), if_pos (by omega), if_pos (by omega), if_pos (by omega), if_pos (by omega)])
    (by
      intro s _
      have : ((l.take i).drop i) = [] := List.drop_of_length_le (by omega)
      rw [this]
      simp only [List.all_nil, Bool.true_and]
      refine Ev.step (fun k => ?_) hnext
      simp only [impl_ValidPacking.l1]
      rw [if_neg (by omega), w64n i (by omega)])
    i 0 () (by omega) trivial
  simpa using hh
theorem impl_l0 (l : List Box) (w h : Int) (hl : l.length ≤ 12) (hw0 : 1 ≤ w) (hw : w ≤ 64) (hh0 : 0 ≤ h) (hh : h ≤ 192) (hwf : ∀ b ∈ l, (-9223372036854775808 ≤ b.f0 ∧ b.f0 ≤ 9223372036854775807) ∧ (-9223372036854775808 ≤ b.f1 ∧ b.f1 ≤ 9223372036854775807)) :
    ∀ d i, i + d = l.length → inAll w h l i → Ev (fun k => impl_ValidPacking.l0 k l w h l (l.length : Int) (i : Int)) (packFrom w h l i) := by
  intro d
  induction d with
  | zero =>
    intro i hi _
    have : i = l.length := by omega
    subst this
    rw [packFrom_end]
    refine Ev.step (f := fun _ => some true) (fun k => ?_) (Ev.now true)
    simp only [impl_ValidPacking.l0]
    rw [if_neg (by omega)]
  | succ d ih =>
    intro i hi hin
    have hlt : i < l.length := by omega
    have hb := hwf l[i] (List.getElem_mem hlt)
    rw [packFrom_at w h l i hlt]
    by_cases c : boxIn w h l[i] = true
    · have hin' : inAll w h l (i + 1) := by
        intro j hj hji
        by_cases e : j = i
        · subst e; exact c
        · exact hin j hj (by omega)
      have hn := ih (i + 1) (by omega) hin'
      have h1 := impl_l1 l w h _ i hlt hl hw hh hin' hn
      rw [c, Bool.true_and]
      rw [boxIn_iff] at c
      refine Ev.step (f := fun k => impl_ValidPacking.j2 k l w h (i : Int) l (l.length : Int) (i : Int) false l[i].f0 l[i].f1 l[i].f2 l[i].f3) (fun k => ?_) ?_
      · simp only [impl_ValidPacking.l0]
        rw [if_pos (by omega), if_pos (by omega), if_pos (by omega), rdBox l i hlt, if_neg (by omega), if_neg (by omega), if_neg (by omega), if_neg (by omega), if_neg (by omega), w64 (x := w - l[i].f0) (by omega) (by omega), if_neg (by omega), if_neg (by omega), w64 (x := h - l[i].f1) (by omega) (by omega)]
        congr 1
        simp; omega
      · refine Ev.step (fun k => ?_) h1
        simp only [impl_ValidPacking.j2]
        rw [if_neg (by simp), if_pos (by omega), if_pos (by omega), Int.toNat_natCast]
        rfl
    · have cf : boxIn w h l[i] = false := by simpa using c
      rw [cf, Bool.false_and, Bool.false_and]
      rw [boxIn_iff] at c
      refine Ev.step (f := fun k => impl_ValidPacking.j2 k l w h (i : Int) l (l.length : Int) (i : Int) true l[i].f0 l[i].f1 l[i].f2 l[i].f3) (fun k => ?_) ?_
      · simp only [impl_ValidPacking.l0]
        rw [if_pos (by omega), if_pos (by omega), if_pos (by omega), rdBox l i hlt]
        by_cases c1 : l[i].f0 < 0
        · rw [if_pos c1]
        rw [if_neg c1]
        by_cases c2 : l[i].f0 > w
        · rw [if_pos c2]
        rw [if_neg c2]
        by_cases c3 : l[i].f1 < 0
        · rw [if_pos c3]
        rw [if_neg c3]
        by_cases c4 : l[i].f1 > h
        · rw [if_pos c4]
        rw [if_neg c4]
        by_cases c5 : l[i].f2 < 1
        · rw [if_pos c5]
        rw [if_neg c5, w64 (x := w - l[i].f0) (by omega) (by omega)]
        by_cases c6 : l[i].f2 > w - l[i].f0
        · rw [if_pos c6]
        rw [if_neg c6]
        by_cases c7 : l[i].f3 < 1
        · rw [if_pos c7]
        rw [if_neg c7, w64 (x := h - l[i].f1) (by omega) (by omega)]
        congr 1
        simp; omega
      · refine Ev.step (f := fun _ => some false) (fun k => ?_) (Ev.now false)
        simp only [impl_ValidPacking.j2]
        rw [if_pos trivial]
theorem impl_ValidPacking_ev (l : List Box) (w h : Int) (hwf : ∀ b ∈ l, (-9223372036854775808 ≤ b.f0 ∧ b.f0 ≤ 9223372036854775807) ∧ (-9223372036854775808 ≤ b.f1 ∧ b.f1 ≤ 9223372036854775807)) :
    Ev (fun k => impl_ValidPacking.f k l w h) (packN l w h) := by
  unfold packN
  have bad : Ev (fun k => impl_ValidPacking.j0 k l w h true) false := by
    refine Ev.step (f := fun _ => some false) (fun k => ?_) (Ev.now false)
    simp only [impl_ValidPacking.j0]
    rw [if_pos trivial]
  by_cases c : atlasOK l w h = true
  · rw [c, Bool.true_and]
    rw [atlasOK_iff] at c
    have h0 := impl_l0 l w h c.2.2.2.2 c.1 c.2.1 c.2.2.1 c.2.2.2.1 hwf l.length 0 (by omega) (fun j hj hji => absurd hji (by omega))
    refine Ev.congr (f := fun k => impl_ValidPacking.j0 k l w h false) (fun k => ?_) ?_
    · unfold impl_ValidPacking.f
      rw [if_neg (by omega), if_neg (by omega), if_neg (by omega), if_neg (by omega)]
      congr 1
      simp; omega
    · refine Ev.step (fun k => ?_) h0
      simp only [impl_ValidPacking.j0]
      rw [if_neg (by simp)]; rfl
  · have cf : atlasOK l w h = false := by simpa using c
    rw [cf, Bool.false_and]
    rw [atlasOK_iff] at c
    refine Ev.congr (f := fun k => impl_ValidPacking.j0 k l w h true) (fun k => ?_) bad
    unfold impl_ValidPacking.f
    by_cases c1 : (l.length : Int) > 12
    · rw [if_pos c1]
    rw [if_neg c1]
    by_cases c2 : w < 1
    · rw [if_pos c2]
    rw [if_neg c2]
    by_cases c3 : w > 64
    · rw [if_pos c3]
    rw [if_neg c3]
    by_cases c4 : h < 0
    · rw [if_pos c4]
    rw [if_neg c4]
    congr 1
    simp; omega
/-! the reference -/
theorem spec_apart_eq (w h : Int) (a b : Box) (hw : w ≤ 64) (hh : h ≤ 192) (ha : boxIn w h a = true) (hb : boxIn w h b = true) : spec_apart.f a.f0 a.f1 a.f2 a.f3 b.f0 b.f1 b.f2 b.f3 = some (apartB a b) := by
  rw [boxIn_iff] at ha hb
  unfold spec_apart.f apartB
  rw [w64 (x := a.f0 + a.f2) (by omega) (by omega), w64 (x := b.f0 + b.f2) (by omega) (by omega), w64 (x := a.f1 + a.f3) (by omega) (by omega), w64 (x := b.f1 + b.f3) (by omega) (by omega)]
  by_cases c1 : a.f0 + a.f2 ≤ b.f0
  · simp [c1]
  by_cases c2 : b.f0 + b.f2 ≤ a.f0
  · simp [c2]
  by_cases c3 : a.f1 + a.f3 ≤ b.f1
  · simp [c3]
  · simp [c1, c2, c3]
theorem spec_apart_some (a0 a1 a2 a3 b0 b1 b2 b3 : Int) : ∃ r, spec_apart.f a0 a1 a2 a3 b0 b1 b2 b3 = some r := by
  unfold spec_apart.f
  split
  · exact ⟨_, rfl⟩
  split
  · exact ⟨_, rfl⟩
  split
  · exact ⟨_, rfl⟩
  · exact ⟨_, rfl⟩
/-- An atlas that is none: false in the end, whatever comes before. -/
theorem spec_bad_l0 (l : List Box) (w h : Int) (hl : l.length ≤ 1000000000) (hbad : ¬ atlasOK l w h = true) :
    ∀ d i, i + d = l.length → Ev (fun k => spec_ValidPacking.l0 k l w h (i : Int)) false := by
  intro d
  induction d with
  | zero =>
    intro i hi
    refine Ev.step (f := fun _ => some false) (fun k => ?_) (Ev.now false)
    rw [atlasOK_iff] at hbad
    simp only [spec_ValidPacking.l0]
    rw [if_neg (by omega), inRangeP, inRangeP]
    simp only [Option.bind_some]
    by_cases c1 : 1 ≤ w ∧ w ≤ 64
    · rw [if_pos (by simpa using c1)]
      by_cases c2 : 0 ≤ h ∧ h ≤ 192
      · rw [if_pos (by simpa using c2)]
        congr 1
        simp; omega
      · rw [if_neg (by simpa using c2)]
    · rw [if_neg (by simpa using c1)]
  | succ d ih =>
    intro i hi
    have hlt : i < l.length := by omega
    have hn := ih (i + 1) (by omega)
    have hj : ∀ b, Ev (fun k => spec_ValidPacking.j1 k l w h (i : Int) b l[i].f0 l[i].f1 l[i].f2 l[i].f3) false := by
      intro b
      cases b with
      | true =>
        refine Ev.step (f := fun _ => some false) (fun k => ?_) (Ev.now false)
        simp only [spec_ValidPacking.j1]
        rw [if_pos trivial]
      | false =>
        have h1 := ev_up i (fun k j (_ : Unit) => spec_ValidPacking.l1 k l w h (i : Int) (j : Int) l[i].f0 l[i].f1 l[i].f2 l[i].f3) (fun _ _ => True) (fun _ _ => false)
          (by
            intro j s hj _
            obtain ⟨r, hr⟩ := spec_apart_some (l[j]'(by omega)).f0 (l[j]'(by omega)).f1 (l[j]'(by omega)).f2 (l[j]'(by omega)).f3 l[i].f0 l[i].f1 l[i].f2 l[i].f3
            cases r with
            | true =>
              right
              refine ⟨(), fun k => ?_, trivial, rfl⟩
              simp only [spec_ValidPacking.l1]
              rw [if_pos (by omega), if_pos (by omega), if_pos (by omega), rdBox l j (by omega), hr, w64n j (by omega)]
              simp only [Option.bind_some, if_true]
            | false =>
              left
              refine Ev.step (f := fun _ => some false) (fun k => ?_) (Ev.now false)
              simp only [spec_ValidPacking.l1]
              rw [if_pos (by omega), if_pos (by omega), if_pos (by omega), rdBox l j (by omega), hr]
              simp)
          (by
            intro s _
            refine Ev.step (fun k => ?_) hn
            simp only [spec_ValidPacking.l1]
            rw [if_neg (by omega), w64n i (by omega)])
          i 0 () (by omega) trivial
        refine Ev.step (fun k => ?_) h1
        simp only [spec_ValidPacking.j1]
        rw [if_neg (by simp)]; rfl
    have hs : ∃ b, ∀ k, spec_ValidPacking.l0 (k + 1) l w h (i : Int) = spec_ValidPacking.j1 k l w h (i : Int) b l[i].f0 l[i].f1 l[i].f2 l[i].f3 := by
      refine ⟨!((((decide (1 ≤ l[i].f2) && decide (l[i].f2 ≤ w)) && (decide (1 ≤ l[i].f3) && decide (l[i].f3 ≤ h))) && (decide (0 ≤ l[i].f0) && decide (l[i].f0 ≤ wrap64 (w - l[i].f2)))) && (decide (0 ≤ l[i].f1) && decide (l[i].f1 ≤ wrap64 (h - l[i].f3)))), fun k => ?_⟩
      simp only [spec_ValidPacking.l0]
      rw [if_pos (by omega), if_pos (by omega), rdBox l i hlt, inRangeP, inRangeP, inRangeP, inRangeP]
      simp only [Option.bind_some]
      cases hc1 : (decide (1 ≤ l[i].f2) && decide (l[i].f2 ≤ w)) <;> cases hc2 : (decide (1 ≤ l[i].f3) && decide (l[i].f3 ≤ h)) <;> cases hc3 : (decide (0 ≤ l[i].f0) && decide (l[i].f0 ≤ wrap64 (w - l[i].f2))) <;> simp
    obtain ⟨b, hb⟩ := hs
    exact Ev.step hb (hj b)
theorem spec_good_l0 (l : List Box) (w h : Int) (ok : atlasOK l w h = true) :
    ∀ d i, i + d = l.length → inAll w h l i → Ev (fun k => spec_ValidPacking.l0 k l w h (i : Int)) (packFrom w h l i) := by
  have ok' := ok
  rw [atlasOK_iff] at ok
  obtain ⟨hw0, hw, hh0, hh, hl⟩ := ok
  intro d
  induction d with
  | zero =>
    intro i hi _
    have : i = l.length := by omega
    subst this
    rw [packFrom_end]
    refine Ev.step (f := fun _ => some true) (fun k => ?_) (Ev.now true)
    simp only [spec_ValidPacking.l0]
    rw [if_neg (by omega), inRangeP, inRangeP]
    simp only [Option.bind_some]
    rw [if_pos (by simp; omega), if_pos (by simp; omega)]
    congr 1
    simp; omega
  | succ d ih =>
    intro i hi hin
    have hlt : i < l.length := by omega
    rw [packFrom_at w h l i hlt]
    by_cases c : boxIn w h l[i] = true
    · have hin' : inAll w h l (i + 1) := by
        intro j hj hji
        by_cases e : j = i
        · subst e; exact c
        · exact hin j hj (by omega)
      have hn := ih (i + 1) (by omega) hin'
      have h1 := ev_up i (fun k j (_ : Unit) => spec_ValidPacking.l1 k l w h (i : Int) (j : Int) l[i].f0 l[i].f1 l[i].f2 l[i].f3) (fun _ _ => True) (fun j _ => ((l.take i).drop j).all (fun a => apartB a l[i]) && packFrom w h l (i + 1))
        (by
          intro j s hj _
          have hg : (l.take i)[j]'(by rw [List.length_take]; omega) = l[j]'(by omega) := by simp
          have hd : ((l.take i).drop j).all (fun a => apartB a l[i]) = (apartB (l[j]'(by omega)) l[i] && ((l.take i).drop (j + 1)).all (fun a => apartB a l[i])) := by
            rw [List.drop_eq_getElem_cons (by rw [List.length_take]; omega), List.all_cons, hg]
          have hr := spec_apart_eq w h (l[j]'(by omega)) l[i] hw hh (hin' j (by omega) (by omega)) c
          rw [hd]
          by_cases ca : apartB (l[j]'(by omega)) l[i] = true
          · right
            refine ⟨(), fun k => ?_, trivial, by rw [ca, Bool.true_and]⟩
            rw [ca] at hr
            simp only [spec_ValidPacking.l1]
            rw [if_pos (by omega), if_pos (by omega), if_pos (by omega), rdBox l j (by omega), hr, w64n j (by omega)]
            simp only [Option.bind_some, if_true]
          · left
            have cf : apartB (l[j]'(by omega)) l[i] = false := by simpa using ca
            rw [cf] at hr ⊢
            rw [Bool.false_and, Bool.false_and]
            refine Ev.step (f := fun _ => some false) (fun k => ?_) (Ev.now false)
            simp only [spec_ValidPacking.l1]
            rw [if_pos (by omega), if_pos (by omega), if_pos (by omega), rdBox l j (by omega), hr]
            simp)
        (by
          intro s _
          have : ((l.take i).drop i) = [] := List.drop_of_length_le (by rw [List.length_take]; omega)
          rw [this]
          simp only [List.all_nil, Bool.true_and]
          refine Ev.step (fun k => ?_) hn
          simp only [spec_ValidPacking.l1]
          rw [if_neg (by omega), w64n i (by omega)])
        i 0 () (by omega) trivial
      rw [c, Bool.true_and]
      rw [boxIn_iff] at c
      refine Ev.step (f := fun k => spec_ValidPacking.j1 k l w h (i : Int) false l[i].f0 l[i].f1 l[i].f2 l[i].f3) (fun k => ?_) ?_
      · simp only [spec_ValidPacking.l0]
        rw [if_pos (by omega), if_pos (by omega), rdBox l i hlt, inRangeP, inRangeP, inRangeP, inRangeP]
        simp only [Option.bind_some]
        rw [w64 (x := w - l[i].f2) (by omega) (by omega), w64 (x := h - l[i].f3) (by omega) (by omega), if_pos (by simp; omega), if_pos (by simp; omega), if_pos (by simp; omega)]
        congr 1
        simp; omega
      · refine Ev.step (fun k => ?_) (by simpa using h1)
        simp only [spec_ValidPacking.j1]
        rw [if_neg (by simp)]
    · have cf : boxIn w h l[i] = false := by simpa using c
      rw [cf, Bool.false_and, Bool.false_and]
      rw [boxIn_iff] at c
      refine Ev.step (f := fun k => spec_ValidPacking.j1 k l w h (i : Int) true l[i].f0 l[i].f1 l[i].f2 l[i].f3) (fun k => ?_) ?_
      · simp only [spec_ValidPacking.l0]
        rw [if_pos (by omega), if_pos (by omega), rdBox l i hlt, inRangeP, inRangeP, inRangeP, inRangeP]
        simp only [Option.bind_some]
        by_cases c1 : 1 ≤ l[i].f2 ∧ l[i].f2 ≤ w
        · rw [if_pos (by simpa using c1), w64 (x := w - l[i].f2) (by omega) (by omega)]
          by_cases c2 : 1 ≤ l[i].f3 ∧ l[i].f3 ≤ h
          · rw [if_pos (by simpa using c2), w64 (x := h - l[i].f3) (by omega) (by omega)]
            by_cases c3 : 0 ≤ l[i].f0 ∧ l[i].f0 ≤ w - l[i].f2
            · rw [if_pos (by simpa using c3)]
              congr 1
              simp; omega
            · rw [if_neg (by simpa using c3)]
          · rw [if_neg (by simpa using c2)]
        · rw [if_neg (by simpa using c1)]
      · refine Ev.step (f := fun _ => some false) (fun k => ?_) (Ev.now false)
        simp only [spec_ValidPacking.j1]
        rw [if_pos trivial]
theorem spec_ValidPacking_ev (l : List Box) (w h : Int) (hl : l.length ≤ 1000000000) : Ev (fun k => spec_ValidPacking.f k l w h) (packN l w h) := by
  unfold packN
  by_cases c : atlasOK l w h = true
  · rw [c, Bool.true_and]
    exact spec_good_l0 l w h c l.length 0 (by omega) (fun j hj hji => absurd hji (by omega))
  · have cf : atlasOK l w h = false := by simpa using c
    rw [cf, Bool.false_and]
    exact spec_bad_l0 l w h hl c l.length 0 (by omega)

/- Copies of a list of Size: they are the list. -/

abbrev Size := S42
theorem rdSize (l : List Size) (i : Nat) (h : i < l.length) : rd_T42 l (i : Int) = l[i] := by simp [rd_T42, h]

/- The reader of draws: whatever the code's bytes are, it answers, in range. -/

/-- What a reader reads from: at most 2000 bytes. -/
def Bytes (b : List Int) : Prop := b.length ≤ 2000 ∧ ∀ x ∈ b, 0 ≤ x ∧ x ≤ 255
theorem Bytes.rd_ {b : List Int} (h : Bytes b) (i : Int) : 0 ≤ rd b i ∧ rd b i ≤ 255 := by
  unfold rd
  by_cases c : i.toNat < b.length
  · rw [List.getD_eq_getElem?_getD, List.getElem?_eq_getElem c]; exact h.2 _ (List.getElem_mem c)
  · rw [List.getD_eq_getElem?_getD, List.getElem?_eq_none (by omega)]; simp
theorem xor_nn (a b : Int) (ha : 0 ≤ a) (ha' : a < 4611686018427387904) (hb : 0 ≤ b) (hb' : b < 4611686018427387904) : 0 ≤ Go.bits .xor .i64 a b := by
  obtain ⟨a, rfl⟩ := Int.eq_ofNat_of_zero_le ha
  obtain ⟨b, rfl⟩ := Int.eq_ofNat_of_zero_le hb
  have ha2 : a < 2 ^ 62 := by have : (2 : Nat) ^ 62 = 4611686018427387904 := by decide +kernel
                              omega
  have hb2 : b < 2 ^ 62 := by have : (2 : Nat) ^ 62 = 4611686018427387904 := by decide +kernel
                              omega
  have e64 : IntKind.bits .i64 = 64 := rfl
  have hx := Nat.xor_lt_two_pow ha2 hb2
  have h62 : (2 : Nat) ^ 62 = 4611686018427387904 := by decide +kernel
  have h64 : (2 : Nat) ^ 64 = 18446744073709551616 := by decide +kernel
  simp only [Go.bits, BitVec.ofInt_natCast, BitVec.toNat_xor, BitVec.toNat_ofNat, e64]
  rw [Nat.mod_eq_of_lt (by omega), Nat.mod_eq_of_lt (by omega), IntKind.wrap_i64]
  generalize a ^^^ b = z at *
  omega
theorem tmod_range (x n : Int) (hx : 0 ≤ x) (hn : 1 ≤ n) : 0 ≤ Int.tmod x n ∧ Int.tmod x n < n := by
  rw [tmod_nn _ _ hx]
  exact ⟨Int.emod_nonneg _ (by omega), Int.emod_lt_of_pos _ (by omega)⟩
theorem pick_at (b : List Int) (p n : Int) (hb : Bytes b) (hp0 : 0 ≤ p) (hp : p ≤ 1000000000000) :
    ∃ v, (∀ k, 0 < k → spec_reader_pick.f k b p n = some (v, p + 1)) ∧ 0 ≤ v ∧ (1 ≤ n → v < n) ∧ (n < 1 → v = 0) := by
  by_cases hn : n < 1
  · refine ⟨0, fun k hk => ?_, by omega, by omega, fun _ => rfl⟩
    obtain ⟨k, rfl⟩ : ∃ m, k = m + 1 := ⟨k - 1, by omega⟩
    unfold spec_reader_pick.f
    rw [if_pos hn, w64 (by omega) (by omega)]
    simp only [spec_reader_pick.j0, if_true]
  by_cases he : b.length = 0
  · refine ⟨0, fun k hk => ?_, by omega, by omega, fun _ => rfl⟩
    obtain ⟨k, rfl⟩ : ∃ m, k = m + 1 := ⟨k - 1, by omega⟩
    unfold spec_reader_pick.f
    rw [if_neg hn, w64 (by omega) (by omega)]
    simp only [spec_reader_pick.j0, he]; simp
  have hlen := hb.1
  by_cases hlt : p < (b.length : Int)
  · have hr := hb.rd_ p
    have ht := tmod_range (rd b p) n hr.1 (by omega)
    refine ⟨Int.tmod (rd b p) n, fun k hk => ?_, ht.1, fun _ => ht.2, by omega⟩
    obtain ⟨k, rfl⟩ : ∃ m, k = m + 1 := ⟨k - 1, by omega⟩
    unfold spec_reader_pick.f
    rw [if_neg hn, w64 (x := p + 1) (by omega) (by omega)]
    simp only [spec_reader_pick.j0]
    rw [if_neg (by simp only [beq_iff_eq]; omega), w64 (x := p + 1 - 1) (by omega) (by omega), show p + 1 - 1 = p by omega, if_pos hlt, if_pos hp0, if_neg (by omega), w64 (x := rd b p) (by omega) (by omega)]
  · have h1 := tmod_range p (b.length : Int) hp0 (by omega)
    have h2 := tmod_range (p * 7 + 3) (b.length : Int) (by omega) (by omega)
    have r1 := hb.rd_ (Int.tmod p (b.length : Int))
    have r2 := hb.rd_ (Int.tmod (p * 7 + 3) (b.length : Int))
    have hd : 0 ≤ Int.tdiv p (b.length : Int) ∧ Int.tdiv p (b.length : Int) ≤ p := by
      rw [tdiv_nn _ _ hp0]
      exact ⟨Int.ediv_nonneg hp0 (by omega), Int.ediv_le_self _ hp0⟩
    generalize h1e : Int.tmod p (b.length : Int) = t1 at *
    generalize h2e : Int.tmod (p * 7 + 3) (b.length : Int) = t2 at *
    generalize hde : Int.tdiv p (b.length : Int) = d at *
    generalize hr1e : rd b t1 = x1 at *
    generalize hr2e : rd b t2 = x2 at *
    have hx := xor_nn (x1 * 131 + x2 * 1117 + p * 29 + d * 53) ((x1 * 131 + x2 * 1117 + p * 29 + d * 53) / 64) (by omega) (by omega) (by omega) (by omega)
    have ht := tmod_range _ n hx (by omega)
    refine ⟨Int.tmod (Go.bits .xor .i64 (x1 * 131 + x2 * 1117 + p * 29 + d * 53) ((x1 * 131 + x2 * 1117 + p * 29 + d * 53) / 64)) n, fun k hk => ?_, ht.1, fun _ => ht.2, by omega⟩
    obtain ⟨k, rfl⟩ : ∃ m, k = m + 1 := ⟨k - 1, by omega⟩
    unfold spec_reader_pick.f
    rw [if_neg hn, w64 (x := p + 1) (by omega) (by omega)]
    simp only [spec_reader_pick.j0]
    rw [if_neg (by simp only [beq_iff_eq]; omega), w64 (x := p + 1 - 1) (by omega) (by omega), show p + 1 - 1 = p by omega, if_neg hlt, if_neg (by omega),
      w64 (x := p * 7) (by omega) (by omega), w64 (x := p * 7 + 3) (by omega) (by omega), h1e, h2e, hde, hr1e, hr2e, if_pos (by omega), if_pos (by omega), if_pos (by omega), if_pos (by omega), if_neg (by omega),
      w64 (x := x1) (by omega) (by omega), w64 (x := x2) (by omega) (by omega), w64 (x := d) (by omega) (by omega), w64 (x := x1 * 131) (by omega) (by omega), w64 (x := x2 * 1117) (by omega) (by omega), w64 (x := p * 29) (by omega) (by omega), w64 (x := d * 53) (by omega) (by omega),
      w64 (x := x1 * 131 + x2 * 1117) (by omega) (by omega), w64 (x := x1 * 131 + x2 * 1117 + p * 29) (by omega) (by omega), w64 (x := x1 * 131 + x2 * 1117 + p * 29 + d * 53) (by omega) (by omega), tdiv_nn _ 64 (by omega),
      w64 (x := (x1 * 131 + x2 * 1117 + p * 29 + d * 53) / 64) (by omega) (by omega)]
theorem one_at (b : List Int) (p : Int) (l : List Int) (hl : 0 < l.length) (hl' : l.length ≤ 1000) (hb : Bytes b) (hp0 : 0 ≤ p) (hp : p ≤ 1000000000000) :
    ∃ v, (∀ k, 0 < k → spec_reader_one.f k b p l = some (v, p + 1)) ∧ v ∈ l := by
  obtain ⟨v, hv, h0, h1, _⟩ := pick_at b p (l.length : Int) hb hp0 hp
  have h1' := h1 (by omega)
  obtain ⟨v, rfl⟩ := Int.eq_ofNat_of_zero_le h0
  refine ⟨l[v]'(by omega), fun k hk => ?_, List.getElem_mem _⟩
  unfold spec_reader_one.f
  rw [hv k hk]
  simp only [Option.bind_some]
  rw [if_pos (by omega), if_pos (by omega), rd_nat l v (by omega)]
theorem newReader_at (l : List Int) (h : ∀ x ∈ l, 0 ≤ x ∧ x ≤ 255) : ∃ b, spec_newReader.f l = some (b, 0) ∧ Bytes b := by
  unfold spec_newReader.f
  by_cases c : (l.length : Int) > 2000
  · rw [if_pos c, if_pos (by omega)]
    exact ⟨_, rfl, by rw [List.length_take]; omega, fun x hx => h x (List.mem_of_mem_take hx)⟩
  · rw [if_neg c]
    exact ⟨_, rfl, by omega, h⟩
/-- What a law is told of its code: bytes. -/
theorem code_bytes (l : List Int) (h : ∀ x ∈ l, (Lit.int .u8 x).wf = true) : ∀ x ∈ l, 0 ≤ x ∧ x ≤ 255 := by
  intro x hx
  have := h x hx
  simp only [Lit.wf, Bool.and_eq_true, decide_eq_true_eq] at this
  have e1 : IntKind.min .u8 = 0 := by decide
  have e2 : IntKind.max .u8 = 255 := by decide
  omega

/- The least height of an atlas, as the program and the reference have it; the sprites that are drawn. -/

theorem inRangeL (n a b : Int) : spec_inRange.f n a b = some (decide (a ≤ n) && decide (n ≤ b)) := by
  unfold spec_inRange.f; by_cases h : a ≤ n <;> simp [h]
def okSprite (w : Int) (s : Size) : Bool := decide (1 ≤ s.f0) && decide (s.f0 ≤ w) && decide (1 ≤ s.f1) && decide (s.f1 ≤ 16)
theorem okSprite_iff (w : Int) (s : Size) : okSprite w s = true ↔ 1 ≤ s.f0 ∧ s.f0 ≤ w ∧ 1 ≤ s.f1 ∧ s.f1 ≤ 16 := by simp [okSprite, and_assoc]
def spritesOK (l : List Size) (w : Int) : Bool := l.all (okSprite w) && (decide (1 ≤ w) && decide (w ≤ 64)) && decide ((l.length : Int) ≤ 12)
theorem spritesOK_iff (l : List Size) (w : Int) : spritesOK l w = true ↔ (∀ s ∈ l, 1 ≤ s.f0 ∧ s.f0 ≤ w ∧ 1 ≤ s.f1 ∧ s.f1 ≤ 16) ∧ (1 ≤ w ∧ w ≤ 64) ∧ l.length ≤ 12 := by
  simp only [spritesOK, Bool.and_eq_true, List.all_eq_true, okSprite_iff, decide_eq_true_eq, and_assoc]
  constructor
  · rintro ⟨a, b, c, d⟩; exact ⟨a, b, c, by omega⟩
  · rintro ⟨a, b, c, d⟩; exact ⟨a, b, c, by omega⟩
theorem validSprites_eq (l : List Size) (w : Int) (hl : l.length ≤ 1000000000) (k : Nat) (hk : l.length < k) : spec_validSprites.f k l w = some (spritesOK l w) := by
  have h := loop_up 0 l.length (fun k i (_ : Unit) => spec_validSprites.l0 k l w (i : Int)) (fun _ _ => True) (fun i _ => (l.drop i).all (okSprite w) && (decide (1 ≤ w) && decide (w ≤ 64)) && decide ((l.length : Int) ≤ 12))
    (by
      intro i s k hi _ _
      have e : (l.drop i).all (okSprite w) = (okSprite w l[i] && (l.drop (i + 1)).all (okSprite w)) := by rw [List.drop_eq_getElem_cons hi, List.all_cons]
      rw [e]
      by_cases c1 : 1 ≤ l[i].f0 ∧ l[i].f0 ≤ w
      · by_cases c2 : 1 ≤ l[i].f1 ∧ l[i].f1 ≤ 16
        · refine .inr ⟨(), ?_, trivial, ?_⟩
          · simp only [spec_validSprites.l0]
            rw [if_pos (by omega), if_pos (by omega), rdSize l i hi, inRangeL, inRangeL]
            simp only [Option.bind_some]
            rw [if_pos (by simpa using c1), if_pos (by simpa using c2), w64n i (by omega)]
          · have : okSprite w l[i] = true := by rw [okSprite_iff]; omega
            rw [this, Bool.true_and]
        · left
          have : okSprite w l[i] = false := by rw [← Bool.not_eq_true, okSprite_iff]; omega
          simp only [spec_validSprites.l0, this, Bool.false_and]
          rw [if_pos (by omega), if_pos (by omega), rdSize l i hi, inRangeL, inRangeL]
          simp only [Option.bind_some]
          rw [if_pos (by simpa using c1), if_neg (by simpa using c2)]
      · left
        have : okSprite w l[i] = false := by rw [← Bool.not_eq_true, okSprite_iff]; omega
        simp only [spec_validSprites.l0, this, Bool.false_and]
        rw [if_pos (by omega), if_pos (by omega), rdSize l i hi, inRangeL]
        simp only [Option.bind_some]
        rw [if_neg (by simpa using c1)])
    (by
      intro s k _ _
      simp only [spec_validSprites.l0]
      rw [if_neg (by omega), inRangeL, List.drop_length]
      simp only [Option.bind_some, List.all_nil, Bool.true_and]
      by_cases c : (decide (1 ≤ w) && decide (w ≤ 64)) = true
      · rw [if_pos c, c, Bool.true_and]
      · rw [if_neg c]; simp only [Bool.not_eq_true] at c; rw [c, Bool.false_and])
    l.length 0 () k (by omega) trivial (by omega)
  unfold spec_validSprites.f spritesOK
  simpa using h
/-! the sprites that are drawn -/
theorem anySprites_ev (b : List Int) (p : Int) (hb : Bytes b) (hp0 : 0 ≤ p) (hp : p ≤ 1000000) :
    ∃ (l : List Size) (p' : Int), Ev (fun k => spec_anySprites.f k b p) (l, p') ∧ l.length ≤ 13 ∧ 0 ≤ p' ∧ p' ≤ 2000000 := by
  obtain ⟨n, hn, hmem⟩ := one_at b p [3, 5, 8, 2, 1, 0, 12, 13] (by simp) (by simp) hb hp0 (by omega)
  have hn13 : 0 ≤ n ∧ n ≤ 13 := by simp at hmem; omega
  obtain ⟨m, rfl⟩ := Int.eq_ofNat_of_zero_le hn13.1
  have key : ∀ (m : Nat) (x : List Size) (p : Int), x.length + m ≤ 13 → 0 ≤ p → p + 3 * (m : Int) ≤ 1500000 →
      ∃ (l : List Size) (p' : Int), Ev (fun k => spec_anySprites.l0 k x (m : Int) b p) (l, p') ∧ l.length ≤ 13 ∧ 0 ≤ p' ∧ p' ≤ 2000000 := by
    intro m
    induction m with
    | zero =>
      intro x p hx hp0 hp
      have j1 : ∀ (c : Bool) (q : Int), 0 < x.length ∨ c = false → 0 ≤ q → q ≤ 1500001 → ∃ (l : List Size) (p' : Int), Ev (fun k => spec_anySprites.j1 k x c b q) (l, p') ∧ l.length ≤ 13 ∧ 0 ≤ p' ∧ p' ≤ 2000000 := by
        intro c q hc hq0 hq
        cases c with
        | false =>
          refine ⟨x, q, Ev.step (f := fun _ => some (x, q)) (fun k => ?_) (Ev.now _), by omega, by omega, by omega⟩
          simp only [spec_anySprites.j1]
          rw [if_neg (by simp)]
        | true =>
          obtain ⟨v1, h1, _⟩ := one_at b q [0, 16, 65] (by simp) (by simp) hb hq0 (by omega)
          obtain ⟨v2, h2, _⟩ := one_at b (q + 1) [0, 16, 17] (by simp) (by simp) hb (by omega) (by omega)
          have hlx : 0 < x.length := by rcases hc with h | h; exact h; cases h
          refine ⟨x.set 0 ⟨v1, v2⟩, q + 1 + 1, ?_, by simp; omega, by omega, by omega⟩
          refine ev_of 1 (fun k hk => ?_)
          obtain ⟨k, rfl⟩ : ∃ m, k = m + 1 := ⟨k - 1, by omega⟩
          simp only [spec_anySprites.j1, if_true]
          rw [h1 k (by omega)]
          simp only [Option.bind_some]
          rw [h2 k (by omega)]
          simp only [Option.bind_some]
          rw [if_pos (by omega)]; rfl
      by_cases c : (x.length : Int) > 0
      · obtain ⟨v, hv, _⟩ := pick_at b p 20 hb hp0 (by omega)
        obtain ⟨l, p', hl, h1, h2, h3⟩ := j1 (v == 0) (p + 1) (.inl (by omega)) (by omega) (by omega)
        refine ⟨l, p', ?_, h1, h2, h3⟩
        refine Ev.step (f := fun k => (spec_reader_pick.f k b p 20).bind fun bt => spec_anySprites.j1 k x (bt.1 == 0) b bt.2) (fun k => ?_) (ev_bind (ev_of 0 hv) hl)
        simp only [spec_anySprites.l0]
        rw [if_neg (by simp), if_pos c]
      · obtain ⟨l, p', hl, h1, h2, h3⟩ := j1 false p (.inr rfl) hp0 (by omega)
        refine ⟨l, p', Ev.step (fun k => ?_) hl, h1, h2, h3⟩
        simp only [spec_anySprites.l0]
        rw [if_neg (by simp), if_neg c]
    | succ m ih =>
      intro x p hx hp0 hp
      obtain ⟨v1, h1, _⟩ := pick_at b p 8 hb hp0 (by omega)
      obtain ⟨v2, h2, _⟩ := pick_at b (p + 1) 8 hb (by omega) (by omega)
      obtain ⟨l, p', hl, q1, q2, q3⟩ := ih (x ++ [⟨wrap64 (1 + v1), wrap64 (1 + v2)⟩]) (p + 1 + 1) (by simp; omega) (by omega) (by omega)
      refine ⟨l, p', ?_, q1, q2, q3⟩
      refine Ev.step (f := fun k => (spec_reader_pick.f k b p 8).bind fun b1 => (spec_reader_pick.f k b b1.2 8).bind fun b2 => spec_anySprites.l0 k (x ++ [⟨wrap64 (1 + b1.1), wrap64 (1 + b2.1)⟩]) (m : Int) b b2.2) (fun k => ?_) (ev_bind (ev_of 0 h1) (ev_bind (ev_of 0 h2) hl))
      simp only [spec_anySprites.l0]
      rw [if_pos (by omega)]
      have e : wrap64 (((m + 1 : Nat) : Int) - 1) = (m : Int) := by rw [w64 (by omega) (by omega)]; omega
      simp only [if_pos (show x.length < 8796093022208 by omega), e]
  obtain ⟨l, p', hl, h1, h2, h3⟩ := key m [] (p + 1) (by simp; omega) (by omega) (by omega)
  exact ⟨l, p', ev_bind (ev_of 0 hn) hl, h1, h2, h3⟩
theorem drawSprites (code : List Int) (h : ∀ x ∈ code, (Lit.int .u8 x).wf = true) :
    ∃ (l : List Size) (w : Int), Ev (fun k => spec_DrawPackSprites.f k code) (l, w) ∧ l.length ≤ 13 := by
  obtain ⟨b, hr, hb⟩ := newReader_at code (code_bytes code h)
  obtain ⟨l, p', hl, hn, h0, h1⟩ := anySprites_ev b 0 hb (by omega) (by omega)
  obtain ⟨w, hw, _⟩ := one_at b p' [10, 16, 8, 20, 64, 65, 0] (by simp) (by simp) hb h0 (by omega)
  refine ⟨l, w, ?_, hn⟩
  unfold spec_DrawPackSprites.f
  exact ev_now hr (ev_bind hl (ev_bind (ev_of 0 hw) (Ev.now _)))

/- The reference's packing of sprites, as far as a law on packings needs it: it answers, and its boxes begin at whole numbers of 64 bits. -/

def In64 (x : Int) : Prop := -9223372036854775808 ≤ x ∧ x ≤ 9223372036854775807
theorem in64_wrap (x : Int) : In64 (wrap64 x) := by unfold In64 wrap64; omega
def Each64 (l : List Int) : Prop := ∀ x ∈ l, In64 x
def Box64 (b : Box) : Prop := In64 b.f0 ∧ In64 b.f1
def Ord (n : Nat) (i : Nat) (o : List Int) : Prop := o.length = i ∧ ∀ x ∈ o, 0 ≤ x ∧ x < (n : Int)
theorem copyInts_tp (l : List Int) (hl : l.length ≤ 1000000) : spec_copyInts.f l = some l := by
  unfold spec_copyInts.f
  simp only [Option.bind_some]
  rw [if_pos (by simp; omega)]
  simp
theorem ord_ins {n i : Nat} {o : List Int} (h : Ord n i o) (hi : i < n) (a : Nat) (ha : a ≤ i) : Ord n (i + 1) ((o.take a ++ [(i : Int)]) ++ o.drop a) := by
  obtain ⟨h1, h2⟩ := h
  refine ⟨by simp only [List.length_append, List.length_take, List.length_drop, List.length_singleton]; omega, fun x hx => ?_⟩
  rw [List.mem_append, List.mem_append, List.mem_singleton] at hx
  rcases hx with (hx | hx) | hx
  · exact h2 x (List.mem_of_mem_take hx)
  · subst hx; omega
  · exact h2 x (List.mem_of_mem_drop hx)
theorem ord_rd {n i : Nat} {o : List Int} (h : Ord n i o) (j : Nat) (hj : j < i) : 0 ≤ rd o (j : Int) ∧ rd o (j : Int) < (n : Int) := by
  rw [rd_nat o j (by have := h.1; omega)]
  exact h.2 _ (List.getElem_mem _)
theorem tall_in (l : List Size) (out : List Int) (i : Nat) (hl : l.length ≤ 12) (hi : i < l.length) (ho : Ord l.length i out)
    (hnext : ∀ o', Ord l.length (i + 1) o' → ∃ o, Ord l.length l.length o ∧ Ev (fun k => spec_tallFirst.l0 k l o' ((i + 1 : Nat) : Int)) o) :
    ∀ a : Nat, a ≤ i → ∃ o, Ord l.length l.length o ∧ Ev (fun k => spec_tallFirst.l1 k l out (i : Int) (a : Int)) o := by
  have hlen := ho.1
  have ins : ∀ a : Nat, a ≤ i → ∃ o, Ord l.length l.length o ∧ Ev (fun k => if 0 ≤ (a : Int) then (if (a : Int) ≤ (out.length : Int) then ((spec_copyInts.f (out.take (a : Int).toNat)).bind fun t => ((some (([(i : Int)] : List Int) : List Int)).bind fun y => (if t.length + y.length < 17592186044416 then ((some (t ++ y : List Int)).bind fun z => ((some (out.drop (a : Int).toNat : List Int)).bind fun u => (if z.length + u.length < 17592186044416 then (spec_tallFirst.l0 k l (z ++ u) (wrap64 ((i : Int) + 1))) else (none)))) else (none)))) else (none)) else (none)) o := by
    intro a ha
    obtain ⟨o, h1, h2⟩ := hnext _ (ord_ins ho hi a ha)
    refine ⟨o, h1, Ev.congr (fun k => ?_) h2⟩
    rw [if_pos (by omega), if_pos (by omega), Int.toNat_natCast, copyInts_tp _ (by rw [List.length_take]; omega)]
    simp only [Option.bind_some]
    rw [if_pos (by simp only [List.length_take, List.length_singleton]; omega), if_pos (by simp only [List.length_append, List.length_take, List.length_drop, List.length_singleton]; omega), w64n i (by omega)]
  intro a
  induction a with
  | zero =>
    intro ha
    obtain ⟨o, h1, h2⟩ := ins 0 ha
    refine ⟨o, h1, Ev.step (fun k => ?_) h2⟩
    simp only [spec_tallFirst.l1]
    rw [if_neg (by omega)]
  | succ a ih =>
    intro ha
    have e : wrap64 (((a + 1 : Nat) : Int) - 1) = (a : Int) := by rw [w64 (by omega) (by omega)]; omega
    have hr := ord_rd ho a (by omega)
    by_cases c : (rd_T42 l (rd out (a : Int))).f1 < (rd_T42 l (i : Int)).f1
    · obtain ⟨o, h1, h2⟩ := ih (by omega)
      refine ⟨o, h1, Ev.step (fun k => ?_) h2⟩
      simp only [spec_tallFirst.l1]
      rw [e, if_pos (by omega), if_pos (by omega), if_pos (by omega), if_pos hr.1, if_pos hr.2, if_pos (by omega), if_pos (by omega), if_pos c]
    · obtain ⟨o, h1, h2⟩ := ins (a + 1) ha
      refine ⟨o, h1, Ev.step (fun k => ?_) h2⟩
      simp only [spec_tallFirst.l1]
      rw [e, if_pos (by omega), if_pos (by omega), if_pos (by omega), if_pos hr.1, if_pos hr.2, if_pos (by omega), if_pos (by omega), if_neg c]
theorem tall_out (l : List Size) (hl : l.length ≤ 12) : ∀ d i, i + d = l.length → ∀ out, Ord l.length i out → ∃ o, Ord l.length l.length o ∧ Ev (fun k => spec_tallFirst.l0 k l out (i : Int)) o := by
  intro d
  induction d with
  | zero =>
    intro i hi out ho
    have e : i = l.length := by omega
    refine ⟨out, e ▸ ho, Ev.step (f := fun _ => some out) (fun k => ?_) (Ev.now out)⟩
    simp only [spec_tallFirst.l0]
    rw [if_neg (by omega)]
  | succ d ih =>
    intro i hi out ho
    obtain ⟨o, h1, h2⟩ := tall_in l out i hl (by omega) ho (fun o' ho' => ih (i + 1) (by omega) o' ho') i (Nat.le_refl _)
    refine ⟨o, h1, Ev.step (fun k => ?_) h2⟩
    simp only [spec_tallFirst.l0]
    rw [if_pos (by omega), ho.1]
theorem tall_ev (l : List Size) (hl : l.length ≤ 12) : ∃ o, Ord l.length l.length o ∧ Ev (fun k => spec_tallFirst.f k l) o := by
  unfold spec_tallFirst.f
  exact tall_out l hl l.length 0 (by omega) [] ⟨rfl, by simp⟩
theorem each_set {l : List Int} (h : Each64 l) (i : Nat) (x : Int) (hx : In64 x) : Each64 (l.set i x) := by
  intro y hy
  rcases List.mem_or_eq_of_mem_set hy with h1 | h1
  · exact h y h1
  · rw [h1]; exact hx
theorem each_add {l : List Int} (h : Each64 l) (x : Int) (hx : In64 x) : Each64 (l ++ [x]) := by
  intro y hy
  rw [List.mem_append, List.mem_singleton] at hy
  rcases hy with h1 | h1
  · exact h y h1
  · rw [h1]; exact hx
theorem each_rd {l : List Int} (h : Each64 l) (i : Int) : In64 (rd l i) := by
  unfold rd
  rw [List.getD_eq_getElem?_getD]
  rcases hx : l[i.toNat]? with _ | x
  · show In64 0; unfold In64; omega
  · exact h x (List.mem_of_getElem? hx)
theorem box_set {l : List Box} (h : ∀ b ∈ l, Box64 b) (i : Nat) (x : Box) (hx : Box64 x) : ∀ b ∈ l.set i x, Box64 b := by
  intro y hy
  rcases List.mem_or_eq_of_mem_set hy with h1 | h1
  · exact h y h1
  · rw [h1]; exact hx
/-- What stands when i sprites have their places. -/
structure Sh (n i : Nat) (bs : List Box) (tops ends : List Int) (h : Int) : Prop where
  len : bs.length = n
  same : tops.length = ends.length
  few : ends.length ≤ i
  box : ∀ b ∈ bs, Box64 b
  top : Each64 tops
  en : Each64 ends
  hh : In64 h
def Done (n : Nat) (r : List Box × Int) : Prop := r.1.length = n ∧ (∀ b ∈ r.1, Box64 b) ∧ In64 r.2
theorem shelf_in (l : List Size) (w : Int) (o : List Int) (hl : l.length ≤ 12) (ho : Ord l.length l.length o) (i : Nat) (hi : i < l.length) (bs : List Box) (tops ends : List Int) (h W H : Int) (hs : Sh l.length i bs tops ends h)
    (hnext : ∀ bs' tops' ends' h', Sh l.length (i + 1) bs' tops' ends' h' → ∃ r, Done l.length r ∧ Ev (fun k => spec_PackSprites.l0 k l w bs' tops' ends' h' o ((i + 1 : Nat) : Int)) r) :
    ∀ d s : Nat, s + d = ends.length → ∃ r, Done l.length r ∧ Ev (fun k => spec_PackSprites.l1 k l w bs tops ends h o (i : Int) (s : Int) W H) r := by
  have hr := ord_rd ho i hi
  have hol := ho.1
  have hf := hs.few
  have hsm := hs.same
  have hbl := hs.len
  intro d
  induction d with
  | zero =>
    intro s he
    obtain ⟨r, h1, h2⟩ := hnext (bs.set (rd o (i : Int)).toNat ⟨rd (ends ++ [0]) (s : Int), rd (tops ++ [h]) (s : Int), W, H⟩) (tops ++ [h]) ((ends ++ [0]).set s (wrap64 (rd (ends ++ [0]) (s : Int) + W))) (wrap64 (h + H))
      ⟨by rw [List.length_set]; exact hs.len, by simp; exact hs.same, by simp; exact hf, box_set hs.box _ _ ⟨each_rd (each_add hs.en 0 (by unfold In64; omega)) _, each_rd (each_add hs.top h hs.hh) _⟩, each_add hs.top h hs.hh, each_set (each_add hs.en 0 (by unfold In64; omega)) _ _ (in64_wrap _), in64_wrap _⟩
    refine ⟨r, h1, Ev.step (fun k => ?_) h2⟩
    simp only [spec_PackSprites.l1]
    rw [if_neg (by omega), if_pos (by omega), if_pos (by omega)]
    simp only [Option.bind_some]
    rw [if_pos (by omega), if_pos (by omega), if_pos (by omega), if_pos (by omega), if_pos (by simp; omega), if_pos (by simp; omega), if_pos hr.1, if_pos (by omega), w64n i (by omega), Int.toNat_natCast]
  | succ d ih =>
    intro s he
    by_cases c : wrap64 (rd ends (s : Int) + W) > w
    · obtain ⟨r, h1, h2⟩ := ih (s + 1) (by omega)
      refine ⟨r, h1, Ev.step (fun k => ?_) h2⟩
      simp only [spec_PackSprites.l1]
      rw [if_pos (by omega), if_pos (by omega), if_pos c, w64n s (by omega)]
    · obtain ⟨r, h1, h2⟩ := hnext (bs.set (rd o (i : Int)).toNat ⟨rd ends (s : Int), rd tops (s : Int), W, H⟩) tops (ends.set s (wrap64 (rd ends (s : Int) + W))) h
        ⟨by rw [List.length_set]; exact hs.len, by rw [List.length_set]; exact hs.same, by rw [List.length_set]; omega, box_set hs.box _ _ ⟨each_rd hs.en _, each_rd hs.top _⟩, hs.top, each_set hs.en _ _ (in64_wrap _), hs.hh⟩
      refine ⟨r, h1, Ev.step (fun k => ?_) h2⟩
      simp only [spec_PackSprites.l1]
      rw [if_pos (by omega), if_pos (by omega), if_neg c, if_neg (by omega), if_pos (by omega), if_pos (by omega), if_pos (by omega), if_pos hr.1, if_pos (by omega), w64n i (by omega), Int.toNat_natCast]
theorem shelf_out (l : List Size) (w : Int) (o : List Int) (hl : l.length ≤ 12) (ho : Ord l.length l.length o) : ∀ d i, i + d = l.length → ∀ bs tops ends h, Sh l.length i bs tops ends h → ∃ r, Done l.length r ∧ Ev (fun k => spec_PackSprites.l0 k l w bs tops ends h o (i : Int)) r := by
  intro d
  induction d with
  | zero =>
    intro i hi bs tops ends h hs
    have hol := ho.1
    refine ⟨(bs, h), ⟨hs.len, hs.box, hs.hh⟩, Ev.step (f := fun _ => some (bs, h)) (fun k => ?_) (Ev.now _)⟩
    simp only [spec_PackSprites.l0]
    rw [if_neg (by omega)]
  | succ d ih =>
    intro i hi bs tops ends h hs
    have hol := ho.1
    have hr := ord_rd ho i (by omega)
    obtain ⟨r, h1, h2⟩ := shelf_in l w o hl ho i (by omega) bs tops ends h (rd_T42 l (rd o (i : Int))).f0 (rd_T42 l (rd o (i : Int))).f1 hs (fun bs' tops' ends' h' hs' => ih (i + 1) (by omega) bs' tops' ends' h' hs') ends.length 0 (by omega)
    refine ⟨r, h1, Ev.step (fun k => ?_) h2⟩
    simp only [spec_PackSprites.l0]
    rw [if_pos (by omega), if_pos (by omega), if_pos hr.1, if_pos hr.2]
    rfl
theorem pack_ev (l : List Size) (w : Int) (hl : l.length ≤ 13) : ∃ r : List Box × Int, (r.1.length ≤ 12 ∧ (∀ b ∈ r.1, Box64 b) ∧ In64 r.2) ∧ Ev (fun k => spec_PackSprites.f k l w) r := by
  have hv : Ev (fun k => spec_validSprites.f k l w) (spritesOK l w) := ev_of l.length (fun k hk => validSprites_eq l w (by omega) k hk)
  unfold spec_PackSprites.f
  by_cases c : spritesOK l w = true
  · have h12 := ((spritesOK_iff l w).1 c).2.2
    obtain ⟨o, ho, hto⟩ := tall_ev l h12
    obtain ⟨r, h1, h2⟩ := shelf_out l w o h12 ho l.length 0 (by omega) (List.replicate ((l.length : Int) : Int).toNat z50) [] [] 0
      ⟨by simp, rfl, by simp, (fun b hb => by rw [(List.mem_replicate.1 hb).2]; exact ⟨by unfold In64; decide, by unfold In64; decide⟩), by intro x hx; simp at hx, by intro x hx; simp at hx, by unfold In64; omega⟩
    refine ⟨r, ⟨by have := h1.1; omega, h1.2.1, h1.2.2⟩, ev_bind hv (ev_pos c (ev_pos (by omega) (ev_pos (by omega) (ev_bind hto h2))))⟩
  · exact ⟨([], -1), ⟨by simp, by simp, by unfold In64; omega⟩, ev_bind hv (ev_neg c (Ev.now _))⟩
theorem pick_tp (b : List Int) (p n : Int) (hn : 1 ≤ n) (hb : Bytes b) (hp0 : 0 ≤ p) (hp : p ≤ 1000000000000) : ∃ v, Ev (fun k => spec_reader_pick.f k b p n) (v, p + 1) ∧ 0 ≤ v ∧ v < n := by
  obtain ⟨v, h, h0, h1, _⟩ := pick_at b p n hb hp0 hp
  exact ⟨v, ev_of 0 h, h0, h1 hn⟩
theorem one_tp (b : List Int) (p : Int) (l : List Int) (hl : 0 < l.length) (hl' : l.length ≤ 1000) (hb : Bytes b) (hp0 : 0 ≤ p) (hp : p ≤ 1000000000000) : ∃ v, Ev (fun k => spec_reader_one.f k b p l) (v, p + 1) := by
  obtain ⟨v, h, _⟩ := one_at b p l hl hl' hb hp0 hp
  exact ⟨v, ev_of 0 h⟩
theorem drawPacking (code : List Int) (hw : ∀ x ∈ code, (Lit.int .u8 x).wf = true) : ∃ (l : List Box) (w h : Int), l.length ≤ 12 ∧ (∀ b ∈ l, Box64 b) ∧ Ev (fun k => spec_DrawValidPacking.f k code) (l, w, h) := by
  obtain ⟨b, hr, hb⟩ := newReader_at code (code_bytes code hw)
  obtain ⟨sl, sw, hsl, hn⟩ := drawSprites code hw
  obtain ⟨⟨bs, ht⟩, ⟨r1, r2, r3⟩, hp⟩ := pack_ev sl sw hn
  simp only at r1 r2 r3
  have plain : ∀ p : Int, 0 ≤ p → p ≤ 1000 → ∃ (l : List Box) (w h : Int), l.length ≤ 12 ∧ (∀ b ∈ l, Box64 b) ∧ Ev (fun k => spec_DrawValidPacking.j0 k sw bs ht false b p) (l, w, h) := by
    intro p p0 p1
    obtain ⟨v, hv⟩ := one_tp b p [0, 0, 0, 3, -1] (by simp) (by simp) hb p0 (by omega)
    refine ⟨bs, sw, wrap64 (mx ht 0 + v), r1, r2, ?_⟩
    refine Ev.step (f := fun k => (spec_reader_one.f k b p (([0, 0, 0, 3, (-1)] : List Int))).bind fun bt => some (bs, sw, wrap64 ((mx ht 0) + bt.1))) (fun k => ?_) (ev_bind hv (Ev.now _))
    simp only [spec_DrawValidPacking.j0]
    rw [if_neg (by simp)]
  by_cases c : (bs.length : Int) > 0
  · obtain ⟨x, hx, x0, x1⟩ := pick_tp b 0 3 (by omega) hb (by omega) (by omega)
    by_cases cx : (x == 0) = true
    · obtain ⟨y, hy, y0, y1⟩ := pick_tp b (0 + 1) (bs.length : Int) (by omega) hb (by omega) (by omega)
      obtain ⟨u, hu, _, _⟩ := pick_tp b (0 + 1 + 1) 5 (by omega) hb (by omega) (by omega)
      obtain ⟨t, ht', _, _⟩ := pick_tp b (0 + 1 + 1 + 1) 3 (by omega) hb (by omega) (by omega)
      obtain ⟨v, hv⟩ := one_tp b (0 + 1 + 1 + 1 + 1) [0, 0, 0, 3, -1] (by simp) (by simp) hb (by omega) (by omega)
      obtain ⟨b1, hb1e⟩ : ∃ b1 : List Box, b1 = bs.set y.toNat ⟨wrap64 (wrap64 ((rd_T50 bs y).f0 + u) - 2), (rd_T50 bs y).f1, (rd_T50 bs y).f2, (rd_T50 bs y).f3⟩ := ⟨_, rfl⟩
      have rdB : ∀ q : List Box, (∀ z ∈ q, Box64 z) → Box64 (rd_T50 q y) := by
        intro q hq
        unfold rd_T50
        rw [List.getD_eq_getElem?_getD]
        rcases hz : q[y.toNat]? with _ | z
        · exact ⟨by unfold In64; decide, by unfold In64; decide⟩
        · exact hq z (List.mem_of_getElem? hz)
      have hb1 : ∀ z ∈ b1, Box64 z := by rw [hb1e]; exact box_set r2 _ _ ⟨in64_wrap _, (rdB bs r2).2⟩
      have hl1 : b1.length ≤ 12 := by rw [hb1e, List.length_set]; exact r1
      refine ⟨b1.set y.toNat ⟨(rd_T50 b1 y).f0, wrap64 (wrap64 ((rd_T50 b1 y).f1 + t) - 1), (rd_T50 b1 y).f2, (rd_T50 b1 y).f3⟩, sw, wrap64 (mx ht 0 + v), by rw [List.length_set]; exact hl1, box_set hb1 _ _ ⟨(rdB b1 hb1).1, in64_wrap _⟩, ?_⟩
      unfold spec_DrawValidPacking.f
      refine ev_now hr (ev_bind hsl (ev_bind hp (ev_pos c (ev_bind hx ?_))))
      subst hb1e
      have hj := ev_bind (f := fun k (q : Int × Int) => if 0 ≤ q.1 then (if q.1 < (bs.length : Int) then ((spec_reader_pick.f k b q.2 5).bind fun bu => ((some (bs.set (q.1 : Int).toNat (⟨wrap64 ((wrap64 (((rd_T50 bs q.1).f0) + bu.1)) - 2), (rd_T50 bs q.1).f1, (rd_T50 bs q.1).f2, (rd_T50 bs q.1).f3⟩ : Box) : List Box)).bind fun b1 => ((spec_reader_pick.f k b bu.2 3).bind fun bt => ((spec_reader_one.f k b bt.2 (([0, 0, 0, 3, (-1)] : List Int))).bind fun bv => (some ((b1.set (q.1 : Int).toNat (⟨(rd_T50 b1 q.1).f0, wrap64 ((wrap64 (((rd_T50 b1 q.1).f1) + bt.1)) - 1), (rd_T50 b1 q.1).f2, (rd_T50 b1 q.1).f3⟩ : Box)), sw, wrap64 ((mx ht 0) + bv.1))))))) else (none)) else (none)) hy (ev_pos y0 (ev_pos y1 (ev_bind hu (ev_bind (Ev.now _) (ev_bind ht' (ev_bind hv (Ev.now _)))))))
      refine Ev.step (fun k => ?_) hj
      simp only [spec_DrawValidPacking.j0]
      rw [if_pos cx]
    · obtain ⟨l, w, h, q1, q2, q3⟩ := plain (0 + 1) (by omega) (by omega)
      refine ⟨l, w, h, q1, q2, ?_⟩
      unfold spec_DrawValidPacking.f
      refine ev_now hr (ev_bind hsl (ev_bind hp (ev_pos c (ev_bind hx ?_))))
      rw [Bool.eq_false_iff.2 cx]
      exact q3
  · obtain ⟨l, w, h, q1, q2, q3⟩ := plain 0 (by omega) (by omega)
    refine ⟨l, w, h, q1, q2, ?_⟩
    unfold spec_DrawValidPacking.f
    exact ev_now hr (ev_bind hsl (ev_bind hp (ev_neg c q3)))

/- No box can be there twice: the law FnValidPackingTwice over lists of numbers alone. -/

theorem packN_iff (l : List Box) (w h : Int) : packN l w h = true ↔ atlasOK l w h = true ∧ ∀ i (hi : i < l.length), boxIn w h l[i] = true ∧ ∀ j (hj : j < i), apartB (l[j]'(by omega)) l[i] = true := by
  unfold packN packFrom
  rw [Bool.and_eq_true, List.all_eq_true]
  refine and_congr_right (fun _ => ⟨fun H i hi => ?_, fun H i hi => ?_⟩)
  · have := H i (by rw [List.mem_range']; exact ⟨i, by omega, by omega⟩)
    simp only [packOKi, List.getElem?_eq_getElem hi, Bool.and_eq_true, List.all_eq_true] at this
    refine ⟨this.1, fun j hj => this.2 _ ?_⟩
    rw [List.mem_iff_getElem]
    exact ⟨j, by rw [List.length_take]; omega, by simp⟩
  · have hi' : i < l.length := by rw [List.mem_range'] at hi; obtain ⟨q, hq, e⟩ := hi; omega
    simp only [packOKi, List.getElem?_eq_getElem hi', Bool.and_eq_true, List.all_eq_true]
    refine ⟨(H i hi').1, fun b hb => ?_⟩
    obtain ⟨j, hj, rfl⟩ := List.mem_iff_getElem.1 hb
    rw [List.length_take] at hj
    simpa using (H i hi').2 j (by omega)
theorem pack_twice {l : List Box} {w h : Int} (hne : 0 < l.length) (b : Box) (e : b = l[0]) : packN (l ++ [b]) w h = false := by
  rw [Bool.eq_false_iff]
  intro K
  have hl : l.length < (l ++ [b]).length := by simp
  have K1 := ((packN_iff _ _ _).1 K).2 l.length hl
  have e1 : (l ++ [b])[l.length] = b := by simp
  have e0 : (l ++ [b])[0]'(by omega) = b := by rw [List.getElem_append_left hne, e]
  have h1 := K1.1
  have h2 := K1.2 0 hne
  rw [e1] at h1 h2
  rw [e0] at h2
  rw [boxIn_iff] at h1
  rw [apartB_iff] at h2
  omega
theorem FnValidPackingTwice : laws_FnValidPackingTwice.Pure := by
  intro code _ _ hw
  apply Ev.rounds
  unfold laws_FnValidPackingTwice.f
  by_cases c : (code.length : Int) > 1048576
  · exact ev_pos c (Ev.now true)
  refine ev_neg c ?_
  obtain ⟨l, w, h, h12, hb, hd⟩ := drawPacking code hw
  have hI := impl_ValidPacking_ev l w h (fun b hb' => hb b hb')
  have hS := spec_ValidPacking_ev l w h (by omega)
  have same : ∀ b, packN l w h = b → Ev (fun k => laws_FnValidPackingTwice.j0 k l w h b true) true := by
    intro b hV
    rw [hV] at hS
    refine Ev.step (f := fun k => (spec_ValidPacking.f k l w h).bind fun t => some (b == t)) (fun k => ?_) (ev_bind hS (ev_const (by simp)))
    simp only [laws_FnValidPackingTwice.j0]
    rw [if_pos trivial]
  refine ev_bind hd (ev_bind hI (ev_bind hS ?_))
  refine ev_neg (by simp) ?_
  cases hV : packN l w h with
  | false => exact ev_neg (by simp) (same false hV)
  | true =>
    refine ev_pos rfl ?_
    by_cases c0 : l.length = 0
    · rw [show ((l.length : Int) == 0) = true by rw [beq_iff_eq]; omega]
      exact same true hV
    · rw [show ((l.length : Int) == 0) = false by rw [beq_eq_false_iff_ne]; omega]
      have hne : 0 < l.length := by omega
      have er : rd_T50 l 0 = l[0] := by simp [rd_T50, hne]
      have hT := ev_val (impl_ValidPacking_ev (l ++ [l[0]]) w h (fun b hb' => by
        rw [List.mem_append, List.mem_singleton] at hb'
        rcases hb' with h1 | h1
        · exact hb b h1
        · rw [h1]; exact hb _ (List.getElem_mem _))) (pack_twice hne l[0] rfl)
      refine Ev.step (f := fun k => (impl_ValidPacking.f k (l ++ [l[0]]) w h).bind fun t => some (!t)) (fun k => ?_) (ev_bind hT (ev_const rfl))
      simp only [laws_FnValidPackingTwice.j0, Option.bind_some]
      rw [if_neg (by simp), if_pos (by simp; omega), if_pos (by omega), er, if_pos (by simp; omega)]
      rfl
end Go.Proofs.Ytgfjccegehnjcaa.Pure

/- The head of the translation reads as a plain cut. -/
namespace Go.Proofs.Ytgfjccegehnjcaa.Head
set_option maxRecDepth 100000
theorem wordsSigns_word (w r : List Char) (h : w.all (fun c => !(c == Char.ofNat 32)) = true) : wordsSigns (w ++ Char.ofNat 32 :: r) = w :: wordsSigns r := by
  induction w with
  | nil => rfl
  | cons c w ih =>
    simp only [List.all_cons, Bool.and_eq_true, Bool.not_eq_true', beq_eq_false_iff_ne, ne_eq] at h
    have h1 := ih (by simpa using h.2)
    rw [List.cons_append, wordsSigns.eq_3 c _ h.1, h1]
def w1 : List Char := [104, 97, 114, 110, 101, 115, 115].map Char.ofNat
def w2 : List Char := [48, 100, 49, 102, 49, 53, 55, 48, 99, 99, 57, 98, 53, 48, 51, 53, 98, 98, 54, 53, 53, 57, 52, 57, 56, 56, 101, 56, 99, 56, 56, 54, 99, 98, 102, 101, 54, 98, 57, 100, 98, 48, 99, 102, 53, 100, 51, 56, 102, 56, 97, 48, 54, 100, 52, 52, 97, 98, 97, 98, 99, 53, 52, 48].map Char.ofNat
def w3 : List Char := [99, 117, 116].map Char.ofNat
def w4 : List Char := [97, 116, 32, 108, 111, 111, 112, 46, 101, 120, 97, 109, 112, 108, 101, 47, 112, 105, 120, 101, 108, 119, 111, 114, 107, 115, 47, 108, 97, 119, 115, 46, 70, 110, 69, 120, 97, 99, 116, 66, 108, 101, 110, 100, 78, 117, 109, 98, 101, 114, 32, 108, 111, 111, 112, 46, 101, 120, 97, 109, 112, 108, 101, 47, 112, 105, 120, 101, 108, 119, 111, 114, 107, 115, 47, 108, 97, 119, 115, 46, 70, 110, 69, 120, 97, 99, 116, 86, 97, 108, 105, 100, 80, 97, 99, 107, 105, 110, 103, 32, 108, 111, 111, 112, 46, 101, 120, 97, 109, 112, 108, 101, 47, 112, 105, 120, 101, 108, 119, 111, 114, 107, 115, 47, 108, 97, 119, 115, 46, 70, 110, 69, 120, 97, 99, 116, 76, 101, 97, 115, 116, 72, 101, 105, 103, 104, 116, 32, 108, 111, 111, 112, 46, 101, 120, 97, 109, 112, 108, 101, 47, 112, 105, 120, 101, 108, 119, 111, 114, 107, 115, 47, 108, 97, 119, 115, 46, 70, 110, 76, 101, 97, 115, 116, 72, 101, 105, 103, 104, 116, 32, 108, 111, 111, 112, 46, 101, 120, 97, 109, 112, 108, 101, 47, 112, 105, 120, 101, 108, 119, 111, 114, 107, 115, 47, 108, 97, 119, 115, 46, 70, 110, 66, 108, 101, 110, 100, 78, 117, 109, 98, 101, 114, 32, 108, 111, 111, 112, 46, 101, 120, 97, 109, 112, 108, 101, 47, 112, 105, 120, 101, 108, 119, 111, 114, 107, 115, 47, 108, 97, 119, 115, 46, 70, 110, 66, 108, 101, 110, 100, 78, 117, 109, 98, 101, 114, 73, 110, 118, 101, 114, 116, 32, 108, 111, 111, 112, 46, 101, 120, 97, 109, 112, 108, 101, 47, 112, 105, 120, 101, 108, 119, 111, 114, 107, 115, 47, 108, 97, 119, 115, 46, 70, 110, 66, 108, 101, 110, 100, 78, 117, 109, 98, 101, 114, 77, 111, 100, 101, 115, 32, 108, 111, 111, 112, 46, 101, 120, 97, 109, 112, 108, 101, 47, 112, 105, 120, 101, 108, 119, 111, 114, 107, 115, 47, 108, 97, 119, 115, 46, 70, 110, 66, 108, 101, 110, 100, 78, 117, 109, 98, 101, 114, 65, 108, 112, 104, 97, 32, 108, 111, 111, 112, 46, 101, 120, 97, 109, 112, 108, 101, 47, 112, 105, 120, 101, 108, 119, 111, 114, 107, 115, 47, 108, 97, 119, 115, 46, 70, 110, 86, 97, 108, 105, 100, 80, 97, 99, 107, 105, 110, 103, 32, 108, 111, 111, 112, 46, 101, 120, 97, 109, 112, 108, 101, 47, 112, 105, 120, 101, 108, 119, 111, 114, 107, 115, 47, 108, 97, 119, 115, 46, 70, 110, 86, 97, 108, 105, 100, 80, 97, 99, 107, 105, 110, 103, 84, 119, 105, 99, 101, 32, 108, 111, 111, 112, 46, 101, 120, 97, 109, 112, 108, 101, 47, 112, 105, 120, 101, 108, 119, 111, 114, 107, 115, 47, 108, 97, 119, 115, 46, 70, 110, 80, 97, 99, 107, 83, 112, 114, 105, 116, 101, 115, 79, 110, 101, 32, 108, 111, 111, 112, 46, 101, 120, 97, 109, 112, 108, 101, 47, 112, 105, 120, 101, 108, 119, 111, 114, 107, 115, 47, 108, 97, 119, 115, 46, 70, 110, 80, 97, 99, 107, 83, 112, 114, 105, 116, 101, 115, 72, 101, 105, 103, 104, 116, 32, 108, 111, 111, 112, 46, 101, 120, 97, 109, 112, 108, 101, 47, 112, 105, 120, 101, 108, 119, 111, 114, 107, 115, 47, 108, 97, 119, 115, 46, 70, 110, 83, 105, 109, 112, 108, 105, 102, 121, 83, 116, 101, 112, 115, 84, 119, 105, 99, 101, 32, 108, 111, 111, 112, 46, 101, 120, 97, 109, 112, 108, 101, 47, 112, 105, 120, 101, 108, 119, 111, 114, 107, 115, 47, 108, 97, 119, 115, 46, 70, 110, 69, 120, 97, 99, 116, 83, 105, 109, 112, 108, 105, 102, 121, 83, 116, 101, 112, 115].map Char.ofNat
theorem signs0 : Try.prog.initOrder = String.ofList (w1 ++ Char.ofNat 32 :: (w2 ++ Char.ofNat 32 :: (w3 ++ Char.ofNat 32 :: w4))) := by kernel_rfl
theorem behind : behindMainWord (wordsSigns Try.prog.initOrder.toList) = w3 :: wordsSigns w4 := by
  rw [signs0, String.toList_ofList, wordsSigns_word w1 _ (by kernel_rfl), wordsSigns_word w2 _ (by kernel_rfl), wordsSigns_word w3 _ (by kernel_rfl)]
  unfold behindMainWord
  dsimp only
  rw [if_pos (by kernel_rfl)]
theorem strip_cut (R : List (List Char)) : stripLifts liftWords (w3 :: R) = ([], w3 :: R) := by kernel_rfl
theorem mayEnter_of (P : Program) (R : List (List Char)) (h : behindMainWord (wordsSigns P.initOrder.toList) = w3 :: R) (h1 : P.laysLater = false) (h2 : P.bearsReflect = false) (h3 : P.doorFits [] = true) : P.mayEnter = true := by
  unfold Program.mayEnter
  rw [h]
  dsimp only
  rw [strip_cut, h1, h2, h3]
  kernel_rfl
theorem liftsFinal_of (P : Program) (R : List (List Char)) (h : behindMainWord (wordsSigns P.initOrder.toList) = w3 :: R) : P.liftsFinal = false := by
  unfold Program.liftsFinal Program.headLifts
  rw [h]
  dsimp only
  rw [strip_cut]
  kernel_rfl
theorem make_of (P : Program) (R : List (List Char)) (h : behindMainWord (wordsSigns P.initOrder.toList) = w3 :: R) : P.make = some .cut := by
  unfold Program.make
  rw [h]
  kernel_rfl
theorem mayEnter : Try.prog.mayEnter = true := mayEnter_of _ _ behind (by kernel_rfl) (by kernel_rfl) (by kernel_rfl)
theorem liftsFinal : Try.prog.liftsFinal = false := liftsFinal_of _ _ behind
theorem make : Try.prog.make = some .cut := make_of _ _ behind
end Go.Proofs.Ytgfjccegehnjcaa.Head

-- PRINTED by print.py: the row of the law laws_FnValidPackingTwice, out of its Pure (the session's) and the printed walk. Not trusted: Lean checks it.
namespace Go.Proofs.Ytgfjccegehnjcaa.fnValidPackingTwice
open Go.ChangeShapes Go.WideShapes Go.ChangeAt Go.RowKit
open Go.ChangeMaps (open_string shut_string)
set_option linter.unusedVariables false
theorem own : ownKnob Try.prog.godebug = none := by kernel_rfl
theorem laidOut : laidOutB Try.prog = true := by kernel_rfl
def IsRow (k : IntKind) (w : World) (a : Option Addr) (len cap : Nat) (zs : List Int) : Prop :=
  (a = none ∧ len = 0 ∧ cap = 0 ∧ zs = []) ∨
  ∃ x, a = some x ∧ len ≤ cap ∧ cap ≤ maxLen ∧ zs.length = cap ∧ (∀ i, i < zs.length → w.cell? (x.add i) = some (.int k (zs.getD i 0))) ∧ ∀ n ∈ zs, (Lit.int k n).wf = true
set_option maxRecDepth 100000 in
theorem lifted (os : Os) (started : os.Started) (H : Type) (enc : TypeId × Value → H) :
    ReturnsInHanded {} Try.checked os 12 .any (Rows.fnValidPackingTwiceSpec.pre6 enc Try.prog Try.f12 Rows.fnValidPackingTwiceRow.domain false) (Rows.fnValidPackingTwiceSpec.post enc Try.prog Try.f12 false true false false) := by
  refine returnsInHanded_of_change_sized (C := Try.checked) own started (by kernel_rfl) Try.func12
    (ChangeSpec.witness6 (enc := enc) (C := Try.checked) false ⟨#[], #[.slice none 0 0], []⟩ 8 (by kernel_rfl) (by kernel_rfl) (by kernel_rfl) (by kernel_rfl)) ?_
  intro W base args ds gs before hval0 hW hcnd hsz0 _
  have hsz : (DataW.weightsEach Try.prog (Try.f12.params.toList ++ Rows.fnValidPackingTwiceSpec.plain.varTypes Try.prog) (ds ++ gs)).all (· ≤ reachBytes) = true := hsz0
  have hval : ∀ (j : Nat) t v, Try.f12.params[j]? = some t → args[j]? = some v → Value.okWide Try.prog W .any base t v := hval0
  have hW' := hW
  obtain ⟨p, q, hA0, hV, rfl, hfz, hnd⟩ := hW
  have hA : DataW.TrodAll enc Try.prog W 0 (fun _ => true) true Try.f12.params.toList args.toList ds p := hA0
  rw [Try.params12] at hA hval hsz
  obtain ⟨v0, vs0, d0, ds0, p0, q0, hargs, rfl, rfl, h0, r0⟩ := trodAll_cons hA
  obtain ⟨rfl, rfl, rfl⟩ := trodAll_nil r0
  obtain rfl : args = #[v0] := by cases args; simp_all
  obtain ⟨rfl, rfl⟩ := trodVars_none hV
  obtain ⟨a0, len0, cap0, rfl⟩ := okWide_slice Try.underlying38 (hval 0 38 v0 rfl rfl)
  have k0 := h0
  have lt0 : ∀ x ∈ p0, x.block < W.heap.size := by obtain ⟨m, hm⟩ := k0; exact DataW.trod_lt m _ _ _ hm
  obtain ⟨z0, w0⟩ : ∃ zs, IsRow .u8 W a0 len0 cap0 zs := by
    obtain ⟨fuel, hf⟩ := h0
    rcases open_ints Try.underlying38 Try.underlying5 (by kernel_rfl) hf with ⟨hcs, _⟩ | ⟨x, l, c, zs, hcs, _, hl, hm, hz, _, hcell, hwz⟩
    · simp [Value.cells] at hcs
      obtain ⟨rfl, rfl, rfl⟩ := hcs
      exact ⟨[], .inl ⟨rfl, rfl, rfl, rfl⟩⟩
    · simp [Value.cells] at hcs
      obtain ⟨rfl, rfl, rfl⟩ := hcs
      exact ⟨zs, .inr ⟨_, rfl, hl, hm, by simpa using hz, hcell, hwz⟩⟩
  have y0 : len0 * 1 ≤ 140737488351232 := Go.Proofs.YtgfjccegehnjcaaW.PrintWords.sized_ints hsz (j := 0) (t := 38) rfl rfl Try.underlying38 Try.underlying5 (by kernel_rfl) (by kernel_rfl) h0
  clear hA0 hval0 hsz0 hsz
  refine (Q.laws_FnValidPackingTwice.walk Pure.FnValidPackingTwice a0 len0 cap0 z0 W w0 y0).mono fun e W' ⟨he, bel⟩ => ?_
  subst he
  exact ⟨_, rfl, _, _, _, [], _, [], hW', trodAll_mk1 (shut_bool Try.underlying4 _), (trodAll_cons_mk (Below.trod laidOut (by kernel_rfl) (of_decide_eq_true (by kernel_rfl)) k0 bel lt0) trodAll_mk0), rfl, bel.frame _, fun h => by cases h⟩
set_option maxHeartbeats 4000000 in
theorem closed : joinedFacts Try.prog 12 Try.f12 Rows.fnValidPackingTwiceSpec Rows.fnValidPackingTwiceRow = true := by
  unfold joinedFacts
  rw [Head.mayEnter, Head.liftsFinal, Head.make]
  simp only [Bool.and_eq_true]
  repeat' apply And.intro
  all_goals first | exact True.intro | (as_aux_lemma => kernel_rfl)
theorem over : Rows.fnValidPackingTwiceRow.holds Try.pinned (OpenSpec.ofChange Rows.fnValidPackingTwiceSpec) :=
  OpenClaim.holds_of_wide 12 Try.f12 rfl rfl rfl rfl rfl rfl rfl ⟨rfl, rfl, rfl, rfl, rfl⟩ rfl rfl rfl rfl rfl (by kernel_rfl) Try.func12 closed
    (of_decide_eq_true (by kernel_rfl)) (by unfold Func.isWrapper; first | (rw [if_pos (by decide +kernel)]; kernel_rfl) | (rw [if_neg (by decide +kernel)]; exact ⟨rfl, rfl⟩))
    (fun os started H enc _ => lifted os started H enc)
theorem proved : Rows.FnValidPackingTwiceSaid := over
#print axioms proved
end Go.Proofs.Ytgfjccegehnjcaa.fnValidPackingTwice
namespace Go.Proofs.Ytgfjccegehnjcaa
/-- The row, under a short name, for the claim. -/
theorem fnValidPackingTwice_holds : Rows.FnValidPackingTwiceSaid := fnValidPackingTwice.proved
end Go.Proofs.Ytgfjccegehnjcaa
