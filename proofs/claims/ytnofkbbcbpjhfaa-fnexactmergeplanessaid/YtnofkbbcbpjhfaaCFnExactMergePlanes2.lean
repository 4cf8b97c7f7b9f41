/- A part of the proof that the statement FnExactMergePlanesSaid holds, under no condition of its own: The program's MergePlanes and the reference's return the same, and what is returned is held by nobody else: over lists of numbers alone. -/
import Derived.Test.YtnofkbbcbpjhfaaCFnExactMergePlanes1
import Derived.Shelf.Abstract
import Derived.Deep.WholeRow
import Derived.Deep.RegionWith
import Derived.OrdersHeld
import Derived.Deep.RegionHeld
import Derived.RegionTactic
namespace Go.Proofs.Ytnofkbbcbpjhfaa.Q
open Go.RowKit Go.Proofs.YtnofkbbcbpjhfaaW.PrintWords Go.Proofs.YtnofkbbcbpjhfaaW.PrintLast Go.Proofs.YtnofkbbcbpjhfaaW.PrintMore
attribute [local go_sem] max2_int min2_int max_two min_two max_three min_three max_four min_four
set_option linter.unusedVariables false
set_option linter.unusedSimpArgs false
mutual
def spec_MergePlanes.l0 : Nat → List (S27) → Int → Option (Int × Int × Int × List Int × Bool)
 | 0, _, _ => none
 | k + 1, x0, x4 => if x4 < (x0.length : Int) then (if 0 ≤ x4 then ((spec_validImage.f k ((rd_T27 x0 x4).f0) ((rd_T27 x0 x4).f1) ((rd_T27 x0 x4).f2) ((rd_T27 x0 x4).f3)).bind fun t55004 => (if t55004 = true then (if ((rd_T27 x0 x4).f2) = 1 then (if 0 < (x0.length : Int) then (if ((rd_T27 x0 x4).f0) = ((rd_T27 x0 0).f0) then (if ((rd_T27 x0 x4).f1) = ((rd_T27 x0 0).f1) then (spec_MergePlanes.l0 k x0 (wrap64 (x4 + 1))) else (some (0, 0, 0, ([] : List Int), false))) else (some (0, 0, 0, ([] : List Int), false))) else (none)) else (some (0, 0, 0, ([] : List Int), false))) else (some (0, 0, 0, ([] : List Int), false)))) else (none)) else (if 0 < (x0.length : Int) then ((spec_newImage.f ((rd_T27 x0 0).f0) ((rd_T27 x0 0).f1) (x0.length : Int)).bind fun bt55012 => (spec_MergePlanes.l1 k x0 0 bt55012.1 bt55012.2.1 bt55012.2.2.1 bt55012.2.2.2)) else (none))
def spec_MergePlanes.l1 : Nat → List (S27) → Int → Int → Int → Int → List Int → Option (Int × Int × Int × List Int × Bool)
 | 0, _, _, _, _, _, _ => none
 | k + 1, x0, x6, x55019000, x55019001, x55019002, x55019003 => if x6 < (x55019003.length : Int) then (if (x0.length : Int) = 0 then (none) else (if 0 ≤ (Int.tmod x6 (x0.length : Int)) then (if (Int.tmod x6 (x0.length : Int)) < (x0.length : Int) then (if 0 ≤ (wrap64 (Int.tdiv x6 (x0.length : Int))) then (if (wrap64 (Int.tdiv x6 (x0.length : Int))) < (((rd_T27 x0 (Int.tmod x6 (x0.length : Int))).f3).length : Int) then (if 0 ≤ x6 then (spec_MergePlanes.l1 k x0 (wrap64 (x6 + 1)) x55019000 x55019001 x55019002 (x55019003.set (x6 : Int).toNat (rd ((rd_T27 x0 (Int.tmod x6 (x0.length : Int))).f3) (wrap64 (Int.tdiv x6 (x0.length : Int)))))) else (none)) else (none)) else (none)) else (none)) else (none))) else (some (x55019000, x55019001, x55019002, x55019003, true))
end
def spec_MergePlanes.f (k : Nat) (l0 : List (S27)) : Option (Int × Int × Int × List Int × Bool) := (spec_inRange.f (l0.length : Int) 1 4).bind fun t55002 => (if t55002 = true then (spec_MergePlanes.l0 k l0 0) else (some (0, 0, 0, ([] : List Int), false)))
def spec_MergePlanes.T6 : Bool × List (List Nat × List Nat) := (true, [([], []), ([], []), ([0, 1], [0, 1]), ([2], [2]), ([3], [3]), ([4], [4]), ([5, 4], [5]), ([6], [6]), ([6], [6]), ([7, 8, 6], [6, 7, 8]), ([9, 6], [6, 9]), ([10, 6], [6, 10]), ([11, 6], [6, 11]), ([6, 12], [6, 12]), ([13, 6], [13]), ([14], [14]), ([14], [14]), ([15, 16, 14], [14, 15, 16]), ([17, 14], [14, 17]), ([18, 14], [14, 18]), ([14], [14]), ([20, 14], [14, 20]), ([21, 14], [14, 21]), ([22, 14], [14, 22]), ([19, 23, 14], [14, 19, 23]), ([14, 24], [14, 24]), ([25, 14], [25]), ([26], [26]), ([26], [26]), ([27, 28, 26], [26, 27, 28]), ([29, 26], [26, 29]), ([30, 26], [26, 30]), ([26], [26]), ([32, 26], [26, 32]), ([33, 26], [26, 33]), ([34, 26], [26, 34]), ([31, 35, 26], [26, 31, 35]), ([26, 36], [26, 36])])
def spec_MergePlanes.B6 : List Nat := [0, 0, 3, 7, 15, 31, 63, 127, 127, 511, 1023, 2047, 4095, 8191, 16383, 32767, 32767, 131071, 262143, 524287, 32767, 1081343, 3178495, 7372799, 16777215, 33554431, 67108863, 134217727, 134217727, 536870911, 1073741823, 2147483647, 134217727, 4429185023, 13019119615, 30198988799, 68719476735, 137438953471]
theorem spec_MergePlanes.tab6 : rtab .any (opsOf Try.f54 6) = spec_MergePlanes.T6 := by kernel_rfl
theorem spec_MergePlanes.bits6 : waitsOk spec_MergePlanes.T6.2 spec_MergePlanes.B6 = true := by kernel_rfl
def spec_MergePlanes.T8 : Bool × List (List Nat × List Nat) := (true, [([], []), ([0], [0]), ([1], [1]), ([2], [2]), ([], []), ([4], [4]), ([5], [5]), ([6], [6]), ([], []), ([8], [8]), ([3, 7, 9], [3, 7, 9]), ([], []), ([11, 10, 10, 0, 1, 2, 3, 4, 5, 6, 7, 8, 9, 10, 11], [10, 11])])
def spec_MergePlanes.B8 : List Nat := [0, 1, 3, 7, 0, 16, 48, 112, 0, 256, 1023, 0, 4095]
theorem spec_MergePlanes.tab8 : rtab .any (opsOf Try.f54 8) = spec_MergePlanes.T8 := by kernel_rfl
theorem spec_MergePlanes.bits8 : waitsOk spec_MergePlanes.T8.2 spec_MergePlanes.B8 = true := by kernel_rfl
def spec_MergePlanes.T12 : Bool × List (List Nat × List Nat) := (true, [([], []), ([0], [0]), ([], []), ([], []), ([], []), ([], []), ([5], [5]), ([4, 6], [4, 6]), ([3, 7], [3, 7]), ([8], [8]), ([9], [9]), ([], []), ([], []), ([12], [12]), ([11, 13], [11, 13]), ([10, 14], [10, 14]), ([15], [15]), ([1, 2, 0, 1, 2, 3, 4, 5, 6, 7, 8, 9, 10, 11, 12, 13, 14, 15, 16], [1, 2]), ([17, 16, 0, 1, 2, 3, 4, 5, 6, 7, 8, 9, 10, 11, 12, 13, 14, 15, 16], [16, 17])])
def spec_MergePlanes.B12 : List Nat := [0, 1, 0, 0, 0, 0, 32, 112, 248, 504, 1016, 0, 0, 4096, 14336, 32760, 65528, 131071, 262143]
theorem spec_MergePlanes.tab12 : rtab .any (opsOf Try.f54 12) = spec_MergePlanes.T12 := by kernel_rfl
theorem spec_MergePlanes.bits12 : waitsOk spec_MergePlanes.T12.2 spec_MergePlanes.B12 = true := by kernel_rfl
set_option maxHeartbeats 8000000 in
set_option maxRecDepth 100000 in
theorem spec_MergePlanes.calls (k : Nat) (A0 : Option Addr) (c0 : Nat) (l0 : List (S27)) (r1 : Int) (r2 : Int) (r3 : Int) (r4 : List Int) (r5 : Bool) (w : World) (hr0 : Kd.C k27 w A0 l0.length l0) (hc0 : l0.length ≤ c0) (h : spec_MergePlanes.f k l0 = some (r1, r2, r3, r4, r5)) :
  Calls Try.prog 54 #[.slice A0 l0.length c0] w fun e w' => ∃ v3_ : Value, e = .returned (.tuple #[.agg #[.int .i64 r1, .int .i64 r2, .int .i64 r3, v3_], .bool r5]) ∧ Kd.R (Kd.int .i64) 3 w' w.heap.size (fun _ => True) v3_ r4 ∧ Below w.heap.size w w' := by
 have hu27 := Try.underlying27
 have HR0 := Aside0.mk hr0
 have HC0 := Aside0.mk hc0
 clear hr0 hc0
 have HB := Aside0.mk (Below.refl w.heap.size w)
 have H : ((spec_inRange.f (l0.length : Int) 1 4).bind fun t55002 => (if t55002 = true then (spec_MergePlanes.l0 k l0 0) else (some (0, 0, 0, ([] : List Int), false)))) = some (r1, r2, r3, r4, r5) := h
 clear h
 replace H := Option.bind_eq_some_iff.mp H
 obtain ⟨t55002, A20, H⟩ := H
 replace H : (if t55002 = true then (spec_MergePlanes.l0 k l0 0) else (some (0, 0, 0, ([] : List Int), false))) = some (r1, r2, r3, r4, r5) := H
 have A2 := Aside0.mk A20
 clear A20
 by_cases c3 : t55002 = true
 ·subst c3
  have H1 : (spec_MergePlanes.l0 k l0 0) = some (r1, r2, r3, r4, r5) := by rw [if_pos rfl] at H; exact H
  clear H
  have H := H1
  clear H1
  have H' := Aside0.mk H
  clear H
  go_enter Try.func54, Try.ntmps54
  go_wp2_with (first | ((with_reducible refine gate_dst (N := 2) rfl ?_); refine box_event ?hg (N := 2) ?hd (cs := #[.int .i64 0, .int .i64 0, .int .i64 0, .slice none 0 0]) (t := 27) ?hr ?_; (case hd => rfl); (case hg => rfl); (case hr => first | (go_simp; done) | (go_simp; rfl)); intro gb55001 hg w4 hbox hb; have n0_ := Aside0.mk (below_step (by repeat (first | (with_reducible first | exact HB.out | apply below_alloc | apply pw_below_drewN | apply below_drew1) | exact HB.out)) hb); have n1_ := Aside0.mk (hbox); have n2_ := Aside0.mk ((by rw [hg]; exact (below_size (by repeat (first | (with_reducible first | exact HB.out | apply below_alloc | apply pw_below_drewN | apply below_drew1) | exact HB.out))) : w.heap.size ≤ gb55001)); have n3_ := Aside0.mk ((by rw [hg]; exact (below_size (by repeat (first | (with_reducible first | exact HB.out | apply below_alloc | apply pw_below_drewN | apply below_drew1) | exact HB.out))) : w.heap.size ≤ gb55001)); clear HB; have HB := n0_; have BK55001 := n1_; have GW55001 := n2_; have GE55001 := n3_; clear n0_ n1_ n2_ n3_; clear hb hbox hg) | ((with_reducible refine gate_callee (f := 110) rfl ?_); refine goesL_ (some 9) rfl rfl Try.func110 (by kernel_rfl) rfl #[.int .i64 (l0.length : Int), .int .i64 1, .int .i64 4] rfl (by (try simp only [bitvec_to_nat]); first | done | rfl | (simp only [List.length_drop, List.length_take]; rfl)) ?_; (with_reducible refine (spec_inRange.calls (l0.length : Int) 1 4 true _ A2.out).mono ?_); rintro e w' ⟨rfl, ⟨nd, rfl⟩⟩; refine ⟨_, rfl, ?_⟩))
  go_loopg [4] k (fun kq v4 w' => ∃ (x4_1 : Int) (x55002000_1 : Int) (x55002001_1 : Int) (x55002002_1 : Int), v4 = .int .i64 x4_1 ∧ Aside0 (spec_MergePlanes.l0 kq l0 x4_1 = some (r1, r2, r3, r4, r5)) ∧ Aside0 (kq ≤ k) ∧ Aside0 (w'.heap[gb55001]? = some (.cells #[.int .i64 x55002000_1, .int .i64 x55002001_1, .int .i64 x55002002_1, (.slice none 0 0)] 27 (0, 0))) ∧ Aside0 (Below w.heap.size w w'))
  case atStart => exact ⟨(0), (0), (0), (0), (by first | rfl | (simp; done) | (simp [*]; done)), H', ⟨Nat.le_refl _⟩, ⟨by (with_reducible repeat (first | refine blk_drewN ?_ _ | refine blk_drew ?_ | refine blk_alloc ?_ _)); exact BK55001.out⟩, ⟨by repeat (first | (with_reducible first | exact HB.out | apply below_alloc | apply pw_below_drewN | apply below_drew1 | refine below_set ?_ GE55001.out) | exact HB.out)⟩⟩
  case round =>
   clear H'
   try clear c1
   try clear p2
   try clear c3
   obtain ⟨x4_1, x55002000_1, x55002001_1, x55002002_1, rfl, HA, HK1, BK55001, HB⟩ := hrel
   cases gk with
   | zero => exact absurd HA.out (by simp [spec_MergePlanes.l0])
   | succ k1 =>
    have H := HA.out
    clear HA
    simp only [spec_MergePlanes.l0] at H
    by_cases c5 : x4_1 < (l0.length : Int)
    ·rw [if_pos c5] at H
     have c5b0 : decide (x4_1 < (l0.length : Int)) = true := decide_eq_true c5
     clear c5
     by_cases c6 : 0 ≤ x4_1
     ·rw [if_pos c6] at H
      have c6b0 : decide (0 ≤ x4_1) = true := decide_eq_true c6
      clear c6
      replace H := Option.bind_eq_some_iff.mp H
      obtain ⟨t55004, A70, H⟩ := H
      replace H : (if t55004 = true then (if ((rd_T27 l0 x4_1).f2) = 1 then (if 0 < (l0.length : Int) then (if ((rd_T27 l0 x4_1).f0) = ((rd_T27 l0 0).f0) then (if ((rd_T27 l0 x4_1).f1) = ((rd_T27 l0 0).f1) then (spec_MergePlanes.l0 k1 l0 (wrap64 (x4_1 + 1))) else (some (0, 0, 0, ([] : List Int), false))) else (some (0, 0, 0, ([] : List Int), false))) else (none)) else (some (0, 0, 0, ([] : List Int), false))) else (some (0, 0, 0, ([] : List Int), false))) = some (r1, r2, r3, r4, r5) := H
      have A7 := Aside0.mk A70
      clear A70
      by_cases c8 : t55004 = true
      ·subst c8
       have H1 : (if ((rd_T27 l0 x4_1).f2) = 1 then (if 0 < (l0.length : Int) then (if ((rd_T27 l0 x4_1).f0) = ((rd_T27 l0 0).f0) then (if ((rd_T27 l0 x4_1).f1) = ((rd_T27 l0 0).f1) then (spec_MergePlanes.l0 k1 l0 (wrap64 (x4_1 + 1))) else (some (0, 0, 0, ([] : List Int), false))) else (some (0, 0, 0, ([] : List Int), false))) else (none)) else (some (0, 0, 0, ([] : List Int), false))) = some (r1, r2, r3, r4, r5) := by rw [if_pos rfl] at H; exact H
       clear H
       have H := H1
       clear H1
       by_cases c9 : ((rd_T27 l0 x4_1).f2) = 1
       ·rw [if_pos c9] at H
        have c9b0 : (((rd_T27 l0 x4_1).f2) == 1) = true := beq_iff_eq.mpr c9
        have c9b1 : (((rd_T27 l0 x4_1).f2) != 1) = false := bne_eq_false_iff_eq.mpr c9
        clear c9
        by_cases c10 : 0 < (l0.length : Int)
        ·rw [if_pos c10] at H
         have c10b0 : decide (0 < (l0.length : Int)) = true := decide_eq_true c10
         have c10b1 : decide (0 < l0.length) = true := decide_eq_true (by omega)
         clear c10
         by_cases c11 : ((rd_T27 l0 x4_1).f0) = ((rd_T27 l0 0).f0)
         ·rw [if_pos c11] at H
          have c11b0 : (((rd_T27 l0 x4_1).f0) == ((rd_T27 l0 0).f0)) = true := beq_iff_eq.mpr c11
          have c11b1 : (((rd_T27 l0 x4_1).f0) != ((rd_T27 l0 0).f0)) = false := bne_eq_false_iff_eq.mpr c11
          clear c11
          by_cases c12 : ((rd_T27 l0 x4_1).f1) = ((rd_T27 l0 0).f1)
          ·rw [if_pos c12] at H
           have c12b0 : (((rd_T27 l0 x4_1).f1) == ((rd_T27 l0 0).f1)) = true := beq_iff_eq.mpr c12
           have c12b1 : (((rd_T27 l0 x4_1).f1) != ((rd_T27 l0 0).f1)) = false := bne_eq_false_iff_eq.mpr c12
           clear c12
           have H' := Aside0.mk H
           clear H
           try go_wp2
           have n0_ := Aside0.mk (blk_drew BK55001.out)
           have n1_ := Aside0.mk (below_drew1 HB.out)
           clear BK55001
           clear HB
           have BK55001 := n0_
           have HB := n1_
           clear n0_ n1_
           have p55003 : 0 ≤ (x4_1 : Int) := of_decide_eq_true (by first | (with_reducible assumption) | assumption)
           have q55003 : x4_1 < (l0.length : Int) := of_decide_eq_true (by first | (with_reducible assumption) | assumption)
           obtain ⟨ad55003, A55003_3, c55003_3, e55003, hx55003_0, hx55003_1, hx55003_2, hx55003_3, hl55003_3, hi55003_3⟩ := at_T27 HR0.out x4_1 p55003 q55003
           have hw55003_3 := hx55003_3
           have hw55003_2 := hx55003_2
           have hw55003_1 := hx55003_1
           have hw55003_0 := hx55003_0
           cases e55003
           replace hx55003_0 := (HB.out.cell (World.block_lt_of_cell? w _ hx55003_0)).trans hx55003_0
           replace hx55003_1 := (HB.out.cell (World.block_lt_of_cell? w _ hx55003_1)).trans hx55003_1
           replace hx55003_2 := (HB.out.cell (World.block_lt_of_cell? w _ hx55003_2)).trans hx55003_2
           replace hx55003_3 := (HB.out.cell (World.block_lt_of_cell? w _ hx55003_3)).trans hx55003_3
           have HR55003_3 := Aside0.mk hi55003_3
           have HC55003_3 := Aside0.mk hl55003_3
           clear hi55003_3 hl55003_3
           replace p55003 := eq_true p55003
           replace q55003 := eq_true q55003
           have p55005 : 0 ≤ (x4_1 : Int) := of_decide_eq_true (by first | (with_reducible assumption) | assumption)
           have q55005 : x4_1 < (l0.length : Int) := of_decide_eq_true (by first | (with_reducible assumption) | assumption)
           obtain ⟨ad55005, A55005_3, c55005_3, e55005, hx55005_0, hx55005_1, hx55005_2, hx55005_3, hl55005_3, hi55005_3⟩ := at_T27 HR0.out x4_1 p55005 q55005
           have hw55005_3 := hx55005_3
           have hw55005_2 := hx55005_2
           have hw55005_1 := hx55005_1
           have hw55005_0 := hx55005_0
           obtain rfl : ad55003 = ad55005 := (by injection e55005)
           replace hx55005_0 := (HB.out.cell (World.block_lt_of_cell? w _ hx55005_0)).trans hx55005_0
           replace hx55005_1 := (HB.out.cell (World.block_lt_of_cell? w _ hx55005_1)).trans hx55005_1
           replace hx55005_2 := (HB.out.cell (World.block_lt_of_cell? w _ hx55005_2)).trans hx55005_2
           replace hx55005_3 := (HB.out.cell (World.block_lt_of_cell? w _ hx55005_3)).trans hx55005_3
           have HR55005_3 := Aside0.mk hi55005_3
           have HC55005_3 := Aside0.mk hl55005_3
           clear hi55005_3 hl55005_3
           replace p55005 := eq_true p55005
           replace q55005 := eq_true q55005
           have p55006 : 0 ≤ (x4_1 : Int) := of_decide_eq_true (by first | (with_reducible assumption) | assumption)
           have q55006 : x4_1 < (l0.length : Int) := of_decide_eq_true (by first | (with_reducible assumption) | assumption)
           obtain ⟨ad55006, A55006_3, c55006_3, e55006, hx55006_0, hx55006_1, hx55006_2, hx55006_3, hl55006_3, hi55006_3⟩ := at_T27 HR0.out x4_1 p55006 q55006
           have hw55006_3 := hx55006_3
           have hw55006_2 := hx55006_2
           have hw55006_1 := hx55006_1
           have hw55006_0 := hx55006_0
           obtain rfl : ad55003 = ad55006 := (by injection e55006)
           replace hx55006_0 := (HB.out.cell (World.block_lt_of_cell? w _ hx55006_0)).trans hx55006_0
           replace hx55006_1 := (HB.out.cell (World.block_lt_of_cell? w _ hx55006_1)).trans hx55006_1
           replace hx55006_2 := (HB.out.cell (World.block_lt_of_cell? w _ hx55006_2)).trans hx55006_2
           replace hx55006_3 := (HB.out.cell (World.block_lt_of_cell? w _ hx55006_3)).trans hx55006_3
           have HR55006_3 := Aside0.mk hi55006_3
           have HC55006_3 := Aside0.mk hl55006_3
           clear hi55006_3 hl55006_3
           replace p55006 := eq_true p55006
           replace q55006 := eq_true q55006
           have ea_ := Option.some.inj (hx55005_3.symm.trans hx55006_3)
           injection ea_ with ea_ en_ ec_
           subst ea_
           subst ec_
           clear en_
           have p55007 : 0 ≤ (0 : Int) := (by omega)
           have q55007 : 0 < (l0.length : Int) := of_decide_eq_true (by first | (with_reducible assumption) | assumption)
           obtain ⟨ad55007, A55007_3, c55007_3, e55007, hx55007_0, hx55007_1, hx55007_2, hx55007_3, hl55007_3, hi55007_3⟩ := at_T27 HR0.out 0 p55007 q55007
           have hw55007_3 := hx55007_3
           (try rw [show ((0 : Int)).toNat = 0 from rfl] at hw55007_3)
           (try rw [show 0 * 4 = 0 from rfl] at hw55007_3)
           (try rw [Addr.add_zero'] at hw55007_3)
           have hw55007_2 := hx55007_2
           (try rw [show ((0 : Int)).toNat = 0 from rfl] at hw55007_2)
           (try rw [show 0 * 4 = 0 from rfl] at hw55007_2)
           (try rw [Addr.add_zero'] at hw55007_2)
           have hw55007_1 := hx55007_1
           (try rw [show ((0 : Int)).toNat = 0 from rfl] at hw55007_1)
           (try rw [show 0 * 4 = 0 from rfl] at hw55007_1)
           (try rw [Addr.add_zero'] at hw55007_1)
           have hw55007_0 := hx55007_0
           (try rw [show ((0 : Int)).toNat = 0 from rfl] at hw55007_0)
           (try rw [show 0 * 4 = 0 from rfl] at hw55007_0)
           (try rw [Addr.add_zero'] at hw55007_0)
           obtain rfl : ad55003 = ad55007 := (by injection e55007)
           have qi55007 : (0 < l0.length) = True := eq_true (by omega)
           (try rw [show ((0 : Int)).toNat = 0 from rfl] at hx55007_0)
           (try rw [show 0 * 4 = 0 from rfl] at hx55007_0)
           (try rw [Addr.add_zero'] at hx55007_0)
           (try rw [show ((0 : Int)).toNat = 0 from rfl] at hx55007_1)
           (try rw [show 0 * 4 = 0 from rfl] at hx55007_1)
           (try rw [Addr.add_zero'] at hx55007_1)
           (try rw [show ((0 : Int)).toNat = 0 from rfl] at hx55007_2)
           (try rw [show 0 * 4 = 0 from rfl] at hx55007_2)
           (try rw [Addr.add_zero'] at hx55007_2)
           (try rw [show ((0 : Int)).toNat = 0 from rfl] at hx55007_3)
           (try rw [show 0 * 4 = 0 from rfl] at hx55007_3)
           (try rw [Addr.add_zero'] at hx55007_3)
           replace hx55007_0 := (HB.out.cell (World.block_lt_of_cell? w _ hx55007_0)).trans hx55007_0
           replace hx55007_1 := (HB.out.cell (World.block_lt_of_cell? w _ hx55007_1)).trans hx55007_1
           replace hx55007_2 := (HB.out.cell (World.block_lt_of_cell? w _ hx55007_2)).trans hx55007_2
           replace hx55007_3 := (HB.out.cell (World.block_lt_of_cell? w _ hx55007_3)).trans hx55007_3
           have HR55007_3 := Aside0.mk hi55007_3
           have HC55007_3 := Aside0.mk hl55007_3
           clear hi55007_3 hl55007_3
           replace p55007 := eq_true p55007
           replace q55007 := eq_true q55007
           have p55008 : 0 ≤ (x4_1 : Int) := of_decide_eq_true (by first | (with_reducible assumption) | assumption)
           have q55008 : x4_1 < (l0.length : Int) := of_decide_eq_true (by first | (with_reducible assumption) | assumption)
           obtain ⟨ad55008, A55008_3, c55008_3, e55008, hx55008_0, hx55008_1, hx55008_2, hx55008_3, hl55008_3, hi55008_3⟩ := at_T27 HR0.out x4_1 p55008 q55008
           have hw55008_3 := hx55008_3
           have hw55008_2 := hx55008_2
           have hw55008_1 := hx55008_1
           have hw55008_0 := hx55008_0
           obtain rfl : ad55003 = ad55008 := (by injection e55008)
           replace hx55008_0 := (HB.out.cell (World.block_lt_of_cell? w _ hx55008_0)).trans hx55008_0
           replace hx55008_1 := (HB.out.cell (World.block_lt_of_cell? w _ hx55008_1)).trans hx55008_1
           replace hx55008_2 := (HB.out.cell (World.block_lt_of_cell? w _ hx55008_2)).trans hx55008_2
           replace hx55008_3 := (HB.out.cell (World.block_lt_of_cell? w _ hx55008_3)).trans hx55008_3
           have HR55008_3 := Aside0.mk hi55008_3
           have HC55008_3 := Aside0.mk hl55008_3
           clear hi55008_3 hl55008_3
           replace p55008 := eq_true p55008
           replace q55008 := eq_true q55008
           have ea_ := Option.some.inj (hx55005_3.symm.trans hx55008_3)
           injection ea_ with ea_ en_ ec_
           subst ea_
           subst ec_
           clear en_
           have p55009 : 0 ≤ (0 : Int) := (by omega)
           have q55009 : 0 < (l0.length : Int) := of_decide_eq_true (by first | (with_reducible assumption) | assumption)
           obtain ⟨ad55009, A55009_3, c55009_3, e55009, hx55009_0, hx55009_1, hx55009_2, hx55009_3, hl55009_3, hi55009_3⟩ := at_T27 HR0.out 0 p55009 q55009
           have hw55009_3 := hx55009_3
           (try rw [show ((0 : Int)).toNat = 0 from rfl] at hw55009_3)
           (try rw [show 0 * 4 = 0 from rfl] at hw55009_3)
           (try rw [Addr.add_zero'] at hw55009_3)
           have hw55009_2 := hx55009_2
           (try rw [show ((0 : Int)).toNat = 0 from rfl] at hw55009_2)
           (try rw [show 0 * 4 = 0 from rfl] at hw55009_2)
           (try rw [Addr.add_zero'] at hw55009_2)
           have hw55009_1 := hx55009_1
           (try rw [show ((0 : Int)).toNat = 0 from rfl] at hw55009_1)
           (try rw [show 0 * 4 = 0 from rfl] at hw55009_1)
           (try rw [Addr.add_zero'] at hw55009_1)
           have hw55009_0 := hx55009_0
           (try rw [show ((0 : Int)).toNat = 0 from rfl] at hw55009_0)
           (try rw [show 0 * 4 = 0 from rfl] at hw55009_0)
           (try rw [Addr.add_zero'] at hw55009_0)
           obtain rfl : ad55003 = ad55009 := (by injection e55009)
           have qi55009 : (0 < l0.length) = True := eq_true (by omega)
           (try rw [show ((0 : Int)).toNat = 0 from rfl] at hx55009_0)
           (try rw [show 0 * 4 = 0 from rfl] at hx55009_0)
           (try rw [Addr.add_zero'] at hx55009_0)
           (try rw [show ((0 : Int)).toNat = 0 from rfl] at hx55009_1)
           (try rw [show 0 * 4 = 0 from rfl] at hx55009_1)
           (try rw [Addr.add_zero'] at hx55009_1)
           (try rw [show ((0 : Int)).toNat = 0 from rfl] at hx55009_2)
           (try rw [show 0 * 4 = 0 from rfl] at hx55009_2)
           (try rw [Addr.add_zero'] at hx55009_2)
           (try rw [show ((0 : Int)).toNat = 0 from rfl] at hx55009_3)
           (try rw [show 0 * 4 = 0 from rfl] at hx55009_3)
           (try rw [Addr.add_zero'] at hx55009_3)
           replace hx55009_0 := (HB.out.cell (World.block_lt_of_cell? w _ hx55009_0)).trans hx55009_0
           replace hx55009_1 := (HB.out.cell (World.block_lt_of_cell? w _ hx55009_1)).trans hx55009_1
           replace hx55009_2 := (HB.out.cell (World.block_lt_of_cell? w _ hx55009_2)).trans hx55009_2
           replace hx55009_3 := (HB.out.cell (World.block_lt_of_cell? w _ hx55009_3)).trans hx55009_3
           have HR55009_3 := Aside0.mk hi55009_3
           have HC55009_3 := Aside0.mk hl55009_3
           clear hi55009_3 hl55009_3
           replace p55009 := eq_true p55009
           replace q55009 := eq_true q55009
           have ea_ := Option.some.inj (hx55007_3.symm.trans hx55009_3)
           injection ea_ with ea_ en_ ec_
           subst ea_
           subst ec_
           clear en_
           refine start_ (n := 38) (S := fun w' => w'.cell? (ad55003.add ((x4_1).toNat * 4)) = some (.int .i64 ((rd_T27 l0 x4_1).f0)) ∧ w'.cell? ⟨(ad55003.add ((x4_1).toNat * 4)).block, (ad55003.add ((x4_1).toNat * 4)).off + 1, none⟩ = some (.int .i64 ((rd_T27 l0 x4_1).f1)) ∧ w'.cell? ⟨(ad55003.add ((x4_1).toNat * 4)).block, (ad55003.add ((x4_1).toNat * 4)).off + 2, none⟩ = some (.int .i64 ((rd_T27 l0 x4_1).f2)) ∧ w'.cell? ⟨(ad55003.add ((x4_1).toNat * 4)).block, (ad55003.add ((x4_1).toNat * 4)).off + 3, none⟩ = some (.slice A55003_3 ((rd_T27 l0 x4_1).f3).length c55003_3) ∧ w'.cell? (ad55003.add ((x4_1).toNat * 4)) = some (.int .i64 ((rd_T27 l0 x4_1).f0)) ∧ w'.cell? ⟨(ad55003.add ((x4_1).toNat * 4)).block, (ad55003.add ((x4_1).toNat * 4)).off + 1, none⟩ = some (.int .i64 ((rd_T27 l0 x4_1).f1)) ∧ w'.cell? ⟨(ad55003.add ((x4_1).toNat * 4)).block, (ad55003.add ((x4_1).toNat * 4)).off + 2, none⟩ = some (.int .i64 ((rd_T27 l0 x4_1).f2)) ∧ w'.cell? ⟨(ad55003.add ((x4_1).toNat * 4)).block, (ad55003.add ((x4_1).toNat * 4)).off + 3, none⟩ = some (.slice A55005_3 ((rd_T27 l0 x4_1).f3).length c55005_3) ∧ w'.cell? (ad55003.add ((x4_1).toNat * 4)) = some (.int .i64 ((rd_T27 l0 x4_1).f0)) ∧ w'.cell? ⟨(ad55003.add ((x4_1).toNat * 4)).block, (ad55003.add ((x4_1).toNat * 4)).off + 1, none⟩ = some (.int .i64 ((rd_T27 l0 x4_1).f1)) ∧ w'.cell? ⟨(ad55003.add ((x4_1).toNat * 4)).block, (ad55003.add ((x4_1).toNat * 4)).off + 2, none⟩ = some (.int .i64 ((rd_T27 l0 x4_1).f2)) ∧ w'.cell? ⟨(ad55003.add ((x4_1).toNat * 4)).block, (ad55003.add ((x4_1).toNat * 4)).off + 3, none⟩ = some (.slice A55005_3 ((rd_T27 l0 x4_1).f3).length c55005_3) ∧ w'.cell? ad55003 = some (.int .i64 ((rd_T27 l0 0).f0)) ∧ w'.cell? ⟨ad55003.block, ad55003.off + 1, none⟩ = some (.int .i64 ((rd_T27 l0 0).f1)) ∧ w'.cell? ⟨ad55003.block, ad55003.off + 2, none⟩ = some (.int .i64 ((rd_T27 l0 0).f2)) ∧ w'.cell? ⟨ad55003.block, ad55003.off + 3, none⟩ = some (.slice A55007_3 ((rd_T27 l0 0).f3).length c55007_3) ∧ w'.cell? (ad55003.add ((x4_1).toNat * 4)) = some (.int .i64 ((rd_T27 l0 x4_1).f0)) ∧ w'.cell? ⟨(ad55003.add ((x4_1).toNat * 4)).block, (ad55003.add ((x4_1).toNat * 4)).off + 1, none⟩ = some (.int .i64 ((rd_T27 l0 x4_1).f1)) ∧ w'.cell? ⟨(ad55003.add ((x4_1).toNat * 4)).block, (ad55003.add ((x4_1).toNat * 4)).off + 2, none⟩ = some (.int .i64 ((rd_T27 l0 x4_1).f2)) ∧ w'.cell? ⟨(ad55003.add ((x4_1).toNat * 4)).block, (ad55003.add ((x4_1).toNat * 4)).off + 3, none⟩ = some (.slice A55005_3 ((rd_T27 l0 x4_1).f3).length c55005_3) ∧ w'.cell? ad55003 = some (.int .i64 ((rd_T27 l0 0).f0)) ∧ w'.cell? ⟨ad55003.block, ad55003.off + 1, none⟩ = some (.int .i64 ((rd_T27 l0 0).f1)) ∧ w'.cell? ⟨ad55003.block, ad55003.off + 2, none⟩ = some (.int .i64 ((rd_T27 l0 0).f2)) ∧ w'.cell? ⟨ad55003.block, ad55003.off + 3, none⟩ = some (.slice A55007_3 ((rd_T27 l0 0).f3).length c55007_3)) (ds := []) #[false, false, false, false, false, false, false, false, false, false, false, false, false, false, false, false, false, false, false, false, false, false, false, false, false, false, false, false, false, false, false, false, false, false, false, false, false, false] (by kernel_rfl) rfl rfl ⟨((HB.out.cell (World.block_lt_of_cell? w _ hw55003_0)).trans hw55003_0), ((HB.out.cell (World.block_lt_of_cell? w _ hw55003_1)).trans hw55003_1), ((HB.out.cell (World.block_lt_of_cell? w _ hw55003_2)).trans hw55003_2), ((HB.out.cell (World.block_lt_of_cell? w _ hw55003_3)).trans hw55003_3), ((HB.out.cell (World.block_lt_of_cell? w _ hw55005_0)).trans hw55005_0), ((HB.out.cell (World.block_lt_of_cell? w _ hw55005_1)).trans hw55005_1), ((HB.out.cell (World.block_lt_of_cell? w _ hw55005_2)).trans hw55005_2), ((HB.out.cell (World.block_lt_of_cell? w _ hw55005_3)).trans hw55005_3), ((HB.out.cell (World.block_lt_of_cell? w _ hw55006_0)).trans hw55006_0), ((HB.out.cell (World.block_lt_of_cell? w _ hw55006_1)).trans hw55006_1), ((HB.out.cell (World.block_lt_of_cell? w _ hw55006_2)).trans hw55006_2), ((HB.out.cell (World.block_lt_of_cell? w _ hw55006_3)).trans hw55006_3), ((HB.out.cell (World.block_lt_of_cell? w _ hw55007_0)).trans hw55007_0), ((HB.out.cell (World.block_lt_of_cell? w _ hw55007_1)).trans hw55007_1), ((HB.out.cell (World.block_lt_of_cell? w _ hw55007_2)).trans hw55007_2), ((HB.out.cell (World.block_lt_of_cell? w _ hw55007_3)).trans hw55007_3), ((HB.out.cell (World.block_lt_of_cell? w _ hw55008_0)).trans hw55008_0), ((HB.out.cell (World.block_lt_of_cell? w _ hw55008_1)).trans hw55008_1), ((HB.out.cell (World.block_lt_of_cell? w _ hw55008_2)).trans hw55008_2), ((HB.out.cell (World.block_lt_of_cell? w _ hw55008_3)).trans hw55008_3), ((HB.out.cell (World.block_lt_of_cell? w _ hw55009_0)).trans hw55009_0), ((HB.out.cell (World.block_lt_of_cell? w _ hw55009_1)).trans hw55009_1), ((HB.out.cell (World.block_lt_of_cell? w _ hw55009_2)).trans hw55009_2), ((HB.out.cell (World.block_lt_of_cell? w _ hw55009_3)).trans hw55009_3)⟩ (fun hHeld => ?_); refine with_tabW spec_MergePlanes.tab6 spec_MergePlanes.bits6 (fun HT_ HW_ => ?_)
           generalize wr.drew = w13 at BK55001 HB HR55003_3 HR55005_3 HR55006_3 HR55007_3 HR55008_3 HR55009_3 hx55003_0 hx55003_1 hx55003_2 hx55003_3 hx55005_0 hx55005_1 hx55005_2 hx55005_3 hx55006_0 hx55006_1 hx55006_2 hx55006_3 hx55007_0 hx55007_1 hx55007_2 hx55007_3 hx55008_0 hx55008_1 hx55008_2 hx55008_3 hx55009_0 hx55009_1 hx55009_2 hx55009_3 hHeld ⊢
           refine pu 0 18 ?_ ?_ rfl rfl (any_of HT_.out (by kernel_rfl)) (Or.inl ⟨by rfl, ?_⟩) ?_ ?_
           rotate_left 2
           ·intro w'
            go_simp
            with_reducible rfl
           ·simp only [seval]
            rfl
           refine pu 1 19 ?_ ?_ rfl rfl (any_of HT_.out (by kernel_rfl)) (Or.inl ⟨by rfl, ?_⟩) ?_ ?_
           rotate_left 2
           ·intro w'
            go_simp
            with_reducible rfl
           ·simp only [seval]
            rfl
           refine pu 2 20 ?_ ?_ rfl rfl (any_of HT_.out (by kernel_rfl)) (Or.inl ⟨by rfl, ?_⟩) ?_ ?_
           rotate_left 2
           ·intro w'
            go_simp
            with_reducible rfl
           ·simp only [seval]
            rfl
           refine tk 3 21 ?_ ?_ rfl rfl (take_ofW HT_.out HW_.out (by kernel_rfl)) (Or.inl ⟨by rfl, ?_⟩) hHeld ?_ ?_
           rotate_left 2
           ·rintro w' ⟨s0, s1, s2, s3, s4, s5, s6, s7, s8, s9, s10, s11, s12, s13, s14, s15, s16, s17, s18, s19, s20, s21, s22, s23⟩
            go_simp
            with_reducible rfl
           ·simp only [seval]
            rfl
           refine one_ (i := 4) (N := some 22) #[true, true, true, true, true, false, false, false, false, false, false, false, false, false, false, false, false, false, false, false, false, false, false, false, false, false, false, false, false, false, false, false, false, false, false, false, false, false] rfl rfl (one_of HT_.out (by kernel_rfl)) (by decide) (fun K hK => ?_)
           refine goes_ Try.func89 (by kernel_rfl) rfl #[.agg #[.int .i64 ((rd_T27 l0 x4_1).f0), .int .i64 ((rd_T27 l0 x4_1).f1), .int .i64 ((rd_T27 l0 x4_1).f2), .slice A55003_3 ((rd_T27 l0 x4_1).f3).length c55003_3]] (by rfl) rfl rfl (by (try simp only [bitvec_to_nat]); first | done | rfl | (simp only [List.length_drop, List.length_take]; rfl)) ?_
           with_reducible refine (spec_validImage.calls k1 ((rd_T27 l0 x4_1).f0) ((rd_T27 l0 x4_1).f1) ((rd_T27 l0 x4_1).f2) _ _ ((rd_T27 l0 x4_1).f3) true _ ?side1 ?side2 A7.out).mono ?_
           (case side1 => repeat (first | exact (Kd.C_below HR55003_3.out HB.out) | (with_reducible refine Kd.C_alloc ?_ _) | (with_reducible refine Kd.C_drewN ?_ _) | (with_reducible refine Kd.C_drew ?_)))
           (case side2 => exact HC55003_3.out)
           rintro e w14 ⟨rfl, hb⟩
           refine ⟨_, rfl, ?_⟩
           have n0_ := Aside0.mk (blk_below (g := gb55001) (o := .cells #[.int .i64 x55002000_1, .int .i64 x55002001_1, .int .i64 x55002002_1, .slice none 0 0] 27 (0, 0)) (by (with_reducible repeat (first | refine blk_drewN ?_ _ | refine blk_drew ?_ | refine blk_alloc ?_ _)); exact BK55001.out) hb)
           have n1_ := Aside0.mk (below_step (by repeat (first | (with_reducible first | exact HB.out | apply below_alloc | apply pw_below_drewN | apply below_drew1 | refine below_set ?_ GE55001.out) | exact HB.out)) hb)
           clear BK55001
           clear HB
           have BK55001 := n0_
           have HB := n1_
           clear n0_ n1_
           (try clear hb)
           (try clear hb2)
           (try clear hk)
           (try clear hi)
           refine hK.out _ _ ⟨((HB.out.cell (World.block_lt_of_cell? w _ hw55003_0)).trans hw55003_0), ((HB.out.cell (World.block_lt_of_cell? w _ hw55003_1)).trans hw55003_1), ((HB.out.cell (World.block_lt_of_cell? w _ hw55003_2)).trans hw55003_2), ((HB.out.cell (World.block_lt_of_cell? w _ hw55003_3)).trans hw55003_3), ((HB.out.cell (World.block_lt_of_cell? w _ hw55005_0)).trans hw55005_0), ((HB.out.cell (World.block_lt_of_cell? w _ hw55005_1)).trans hw55005_1), ((HB.out.cell (World.block_lt_of_cell? w _ hw55005_2)).trans hw55005_2), ((HB.out.cell (World.block_lt_of_cell? w _ hw55005_3)).trans hw55005_3), ((HB.out.cell (World.block_lt_of_cell? w _ hw55006_0)).trans hw55006_0), ((HB.out.cell (World.block_lt_of_cell? w _ hw55006_1)).trans hw55006_1), ((HB.out.cell (World.block_lt_of_cell? w _ hw55006_2)).trans hw55006_2), ((HB.out.cell (World.block_lt_of_cell? w _ hw55006_3)).trans hw55006_3), ((HB.out.cell (World.block_lt_of_cell? w _ hw55007_0)).trans hw55007_0), ((HB.out.cell (World.block_lt_of_cell? w _ hw55007_1)).trans hw55007_1), ((HB.out.cell (World.block_lt_of_cell? w _ hw55007_2)).trans hw55007_2), ((HB.out.cell (World.block_lt_of_cell? w _ hw55007_3)).trans hw55007_3), ((HB.out.cell (World.block_lt_of_cell? w _ hw55008_0)).trans hw55008_0), ((HB.out.cell (World.block_lt_of_cell? w _ hw55008_1)).trans hw55008_1), ((HB.out.cell (World.block_lt_of_cell? w _ hw55008_2)).trans hw55008_2), ((HB.out.cell (World.block_lt_of_cell? w _ hw55008_3)).trans hw55008_3), ((HB.out.cell (World.block_lt_of_cell? w _ hw55009_0)).trans hw55009_0), ((HB.out.cell (World.block_lt_of_cell? w _ hw55009_1)).trans hw55009_1), ((HB.out.cell (World.block_lt_of_cell? w _ hw55009_2)).trans hw55009_2), ((HB.out.cell (World.block_lt_of_cell? w _ hw55009_3)).trans hw55009_3)⟩ (fun hHeld => ?_)
           clear hK K
           refine norm_ (a' := ?_) ?_ ?_
           rotate_left
           ·show Act.put _ (some 22) _ = _
            simp only [seval]
            rfl
           refine pu 5 23 ?_ ?_ rfl rfl (any_of HT_.out (by kernel_rfl)) (Or.inl ⟨by rfl, ?_⟩) ?_ ?_
           rotate_left 2
           ·intro w'
            go_simp
            with_reducible rfl
           ·simp only [seval]
            rfl
           refine pu 6 24 ?_ ?_ rfl rfl (any_of HT_.out (by kernel_rfl)) (Or.inl ⟨by rfl, ?_⟩) ?_ ?_
           rotate_left 2
           ·intro w'
            go_simp
            with_reducible rfl
           ·simp only [seval]
            rfl
           refine pu 7 25 ?_ ?_ rfl rfl (any_of HT_.out (by kernel_rfl)) (Or.inl ⟨by rfl, ?_⟩) ?_ ?_
           rotate_left 2
           ·intro w'
            go_simp
            with_reducible rfl
           ·simp only [seval]
            rfl
           refine pu 8 26 ?_ ?_ rfl rfl (any_of HT_.out (by kernel_rfl)) (Or.inl ⟨by rfl, ?_⟩) ?_ ?_
           rotate_left 2
           ·intro w'
            go_simp
            with_reducible rfl
           ·simp only [seval]
            rfl
           refine pu 9 27 ?_ ?_ rfl rfl (any_of HT_.out (by kernel_rfl)) (Or.inl ⟨by rfl, ?_⟩) ?_ ?_
           rotate_left 2
           ·intro w'
            go_simp
            with_reducible rfl
           ·simp only [seval]
            rfl
           refine pu 10 28 ?_ ?_ rfl rfl (any_of HT_.out (by kernel_rfl)) (Or.inl ⟨by rfl, ?_⟩) ?_ ?_
           rotate_left 2
           ·intro w'
            go_simp
            with_reducible rfl
           ·simp only [seval]
            rfl
           refine tk 11 29 ?_ ?_ rfl rfl (take_ofW HT_.out HW_.out (by kernel_rfl)) (Or.inl ⟨by rfl, ?_⟩) hHeld ?_ ?_
           rotate_left 2
           ·rintro w' ⟨s0, s1, s2, s3, s4, s5, s6, s7, s8, s9, s10, s11, s12, s13, s14, s15, s16, s17, s18, s19, s20, s21, s22, s23⟩
            go_simp
            with_reducible rfl
           ·simp only [seval]
            rfl
           refine pu 12 30 ?_ ?_ rfl rfl (any_of HT_.out (by kernel_rfl)) (Or.inl ⟨by rfl, ?_⟩) ?_ ?_
           rotate_left 2
           ·intro w'
            go_simp
            with_reducible rfl
           ·simp only [seval]
            rfl
           refine pu 13 31 ?_ ?_ rfl rfl (any_of HT_.out (by kernel_rfl)) (Or.inl ⟨by rfl, ?_⟩) ?_ ?_
           rotate_left 2
           ·intro w'
            go_simp
            with_reducible rfl
           ·simp only [seval]
            rfl
           refine pu 14 32 ?_ ?_ rfl rfl (any_of HT_.out (by kernel_rfl)) (Or.inl ⟨by rfl, ?_⟩) ?_ ?_
           rotate_left 2
           ·intro w'
            go_simp
            with_reducible rfl
           ·simp only [seval]
            rfl
           refine pu 15 33 ?_ ?_ rfl rfl (any_of HT_.out (by kernel_rfl)) (Or.inl ⟨by rfl, ?_⟩) ?_ ?_
           rotate_left 2
           ·intro w'
            go_simp
            with_reducible rfl
           ·simp only [seval]
            rfl
           refine pu 16 34 ?_ ?_ rfl rfl (any_of HT_.out (by kernel_rfl)) (Or.inl ⟨by rfl, ?_⟩) ?_ ?_
           rotate_left 2
           ·intro w'
            go_simp
            with_reducible rfl
           ·simp only [seval]
            rfl
           refine pu 17 35 ?_ ?_ rfl rfl (any_of HT_.out (by kernel_rfl)) (Or.inl ⟨by rfl, ?_⟩) ?_ ?_
           rotate_left 2
           ·intro w'
            go_simp
            with_reducible rfl
           ·simp only [seval]
            rfl
           refine pu 18 36 ?_ ?_ rfl rfl (any_of HT_.out (by kernel_rfl)) (Or.inl ⟨by rfl, ?_⟩) ?_ ?_
           rotate_left 2
           ·intro w'
            go_simp
            with_reducible rfl
           ·simp only [seval]
            rfl
           refine pu 20 38 ?_ ?_ rfl rfl (any_of HT_.out (by kernel_rfl)) (Or.inl ⟨by rfl, ?_⟩) ?_ ?_
           rotate_left 2
           ·intro w'
            go_simp
            with_reducible rfl
           ·simp only [seval]
            rfl
           refine pu 21 39 ?_ ?_ rfl rfl (any_of HT_.out (by kernel_rfl)) (Or.inl ⟨by rfl, ?_⟩) ?_ ?_
           rotate_left 2
           ·intro w'
            go_simp
            with_reducible rfl
           ·simp only [seval]
            rfl
           refine pu 22 40 ?_ ?_ rfl rfl (any_of HT_.out (by kernel_rfl)) (Or.inl ⟨by rfl, ?_⟩) ?_ ?_
           rotate_left 2
           ·intro w'
            go_simp
            with_reducible rfl
           ·simp only [seval]
            rfl
           refine tk 19 37 ?_ ?_ rfl rfl (take_ofW HT_.out HW_.out (by kernel_rfl)) (Or.inl ⟨by rfl, ?_⟩) hHeld ?_ ?_
           rotate_left 2
           ·rintro w' ⟨s0, s1, s2, s3, s4, s5, s6, s7, s8, s9, s10, s11, s12, s13, s14, s15, s16, s17, s18, s19, s20, s21, s22, s23⟩
            go_simp
            with_reducible rfl
           ·simp only [seval]
            rfl
           refine tk 23 41 ?_ ?_ rfl rfl (take_ofW HT_.out HW_.out (by kernel_rfl)) (Or.inl ⟨by rfl, ?_⟩) hHeld ?_ ?_
           rotate_left 2
           ·rintro w' ⟨s0, s1, s2, s3, s4, s5, s6, s7, s8, s9, s10, s11, s12, s13, s14, s15, s16, s17, s18, s19, s20, s21, s22, s23⟩
            go_simp
            with_reducible rfl
           ·simp only [seval]
            rfl
           refine pu 24 42 ?_ ?_ rfl rfl (any_of HT_.out (by kernel_rfl)) (Or.inl ⟨by rfl, ?_⟩) ?_ ?_
           rotate_left 2
           ·intro w'
            go_simp
            with_reducible rfl
           ·simp only [seval]
            rfl
           refine pu 25 43 ?_ ?_ rfl rfl (any_of HT_.out (by kernel_rfl)) (Or.inl ⟨by rfl, ?_⟩) ?_ ?_
           rotate_left 2
           ·intro w'
            go_simp
            with_reducible rfl
           ·simp only [seval]
            rfl
           refine pu 26 44 ?_ ?_ rfl rfl (any_of HT_.out (by kernel_rfl)) (Or.inl ⟨by rfl, ?_⟩) ?_ ?_
           rotate_left 2
           ·intro w'
            go_simp
            with_reducible rfl
           ·simp only [seval]
            rfl
           refine pu 27 45 ?_ ?_ rfl rfl (any_of HT_.out (by kernel_rfl)) (Or.inl ⟨by rfl, ?_⟩) ?_ ?_
           rotate_left 2
           ·intro w'
            go_simp
            with_reducible rfl
           ·simp only [seval]
            rfl
           refine pu 28 46 ?_ ?_ rfl rfl (any_of HT_.out (by kernel_rfl)) (Or.inl ⟨by rfl, ?_⟩) ?_ ?_
           rotate_left 2
           ·intro w'
            go_simp
            with_reducible rfl
           ·simp only [seval]
            rfl
           refine pu 29 47 ?_ ?_ rfl rfl (any_of HT_.out (by kernel_rfl)) (Or.inl ⟨by rfl, ?_⟩) ?_ ?_
           rotate_left 2
           ·intro w'
            go_simp
            with_reducible rfl
           ·simp only [seval]
            rfl
           refine pu 30 48 ?_ ?_ rfl rfl (any_of HT_.out (by kernel_rfl)) (Or.inl ⟨by rfl, ?_⟩) ?_ ?_
           rotate_left 2
           ·intro w'
            go_simp
            with_reducible rfl
           ·simp only [seval]
            rfl
           refine pu 32 50 ?_ ?_ rfl rfl (any_of HT_.out (by kernel_rfl)) (Or.inl ⟨by rfl, ?_⟩) ?_ ?_
           rotate_left 2
           ·intro w'
            go_simp
            with_reducible rfl
           ·simp only [seval]
            rfl
           refine pu 33 51 ?_ ?_ rfl rfl (any_of HT_.out (by kernel_rfl)) (Or.inl ⟨by rfl, ?_⟩) ?_ ?_
           rotate_left 2
           ·intro w'
            go_simp
            with_reducible rfl
           ·simp only [seval]
            rfl
           refine pu 34 52 ?_ ?_ rfl rfl (any_of HT_.out (by kernel_rfl)) (Or.inl ⟨by rfl, ?_⟩) ?_ ?_
           rotate_left 2
           ·intro w'
            go_simp
            with_reducible rfl
           ·simp only [seval]
            rfl
           refine tk 31 49 ?_ ?_ rfl rfl (take_ofW HT_.out HW_.out (by kernel_rfl)) (Or.inl ⟨by rfl, ?_⟩) hHeld ?_ ?_
           rotate_left 2
           ·rintro w' ⟨s0, s1, s2, s3, s4, s5, s6, s7, s8, s9, s10, s11, s12, s13, s14, s15, s16, s17, s18, s19, s20, s21, s22, s23⟩
            go_simp
            with_reducible rfl
           ·simp only [seval]
            rfl
           refine tk 35 53 ?_ ?_ rfl rfl (take_ofW HT_.out HW_.out (by kernel_rfl)) (Or.inl ⟨by rfl, ?_⟩) hHeld ?_ ?_
           rotate_left 2
           ·rintro w' ⟨s0, s1, s2, s3, s4, s5, s6, s7, s8, s9, s10, s11, s12, s13, s14, s15, s16, s17, s18, s19, s20, s21, s22, s23⟩
            go_simp
            with_reducible rfl
           ·simp only [seval]
            rfl
           refine pu 36 54 ?_ ?_ rfl rfl (any_of HT_.out (by kernel_rfl)) (Or.inl ⟨by rfl, ?_⟩) ?_ ?_
           rotate_left 2
           ·intro w'
            go_simp
            with_reducible rfl
           ·simp only [seval]
            rfl
           refine pu 37 55 ?_ ?_ rfl rfl (any_of HT_.out (by kernel_rfl)) (Or.inl ⟨by rfl, ?_⟩) ?_ ?_
           rotate_left 2
           ·intro w'
            go_simp
            with_reducible rfl
           ·simp only [seval]
            rfl
           refine done_ (done_of HT_.out (by kernel_rfl)) ?_
           try go_wp2
           go_roundg k1
           case measure => have := HK1.out; omega
           case rel => exact ⟨(wrap64 (x4_1 + 1)), (x55002000_1), (x55002001_1), (x55002002_1), (by first | rfl | (simp; done) | (simp [*]; done)), H', ⟨by have := HK1.out; omega⟩, ⟨by (with_reducible repeat (first | refine blk_drewN ?_ _ | refine blk_drew ?_ | refine blk_alloc ?_ _)); exact BK55001.out⟩, ⟨by repeat (first | (with_reducible first | exact HB.out | apply below_alloc | apply pw_below_drewN | apply below_drew1 | refine below_set ?_ GE55001.out) | exact HB.out)⟩⟩
          ·rw [if_neg c12] at H
           have c12b0 : (((rd_T27 l0 x4_1).f1) == ((rd_T27 l0 0).f1)) = false := beq_eq_false_iff_ne.mpr c12
           have c12b1 : (((rd_T27 l0 x4_1).f1) != ((rd_T27 l0 0).f1)) = true := bne_iff_ne.mpr c12
           simp only [Option.some.injEq, Prod.mk.injEq] at H
           obtain ⟨rfl, rfl, rfl, rfl, rfl⟩ := H
           try go_wp2
           have n0_ := Aside0.mk (blk_drew BK55001.out)
           have n1_ := Aside0.mk (below_drew1 HB.out)
           clear BK55001
           clear HB
           have BK55001 := n0_
           have HB := n1_
           clear n0_ n1_
           have p55003 : 0 ≤ (x4_1 : Int) := of_decide_eq_true (by first | (with_reducible assumption) | assumption)
           have q55003 : x4_1 < (l0.length : Int) := of_decide_eq_true (by first | (with_reducible assumption) | assumption)
           obtain ⟨ad55003, A55003_3, c55003_3, e55003, hx55003_0, hx55003_1, hx55003_2, hx55003_3, hl55003_3, hi55003_3⟩ := at_T27 HR0.out x4_1 p55003 q55003
           have hw55003_3 := hx55003_3
           have hw55003_2 := hx55003_2
           have hw55003_1 := hx55003_1
           have hw55003_0 := hx55003_0
           cases e55003
           replace hx55003_0 := (HB.out.cell (World.block_lt_of_cell? w _ hx55003_0)).trans hx55003_0
           replace hx55003_1 := (HB.out.cell (World.block_lt_of_cell? w _ hx55003_1)).trans hx55003_1
           replace hx55003_2 := (HB.out.cell (World.block_lt_of_cell? w _ hx55003_2)).trans hx55003_2
           replace hx55003_3 := (HB.out.cell (World.block_lt_of_cell? w _ hx55003_3)).trans hx55003_3
           have HR55003_3 := Aside0.mk hi55003_3
           have HC55003_3 := Aside0.mk hl55003_3
           clear hi55003_3 hl55003_3
           replace p55003 := eq_true p55003
           replace q55003 := eq_true q55003
           have p55005 : 0 ≤ (x4_1 : Int) := of_decide_eq_true (by first | (with_reducible assumption) | assumption)
           have q55005 : x4_1 < (l0.length : Int) := of_decide_eq_true (by first | (with_reducible assumption) | assumption)
           obtain ⟨ad55005, A55005_3, c55005_3, e55005, hx55005_0, hx55005_1, hx55005_2, hx55005_3, hl55005_3, hi55005_3⟩ := at_T27 HR0.out x4_1 p55005 q55005
           have hw55005_3 := hx55005_3
           have hw55005_2 := hx55005_2
           have hw55005_1 := hx55005_1
           have hw55005_0 := hx55005_0
           obtain rfl : ad55003 = ad55005 := (by injection e55005)
           replace hx55005_0 := (HB.out.cell (World.block_lt_of_cell? w _ hx55005_0)).trans hx55005_0
           replace hx55005_1 := (HB.out.cell (World.block_lt_of_cell? w _ hx55005_1)).trans hx55005_1
           replace hx55005_2 := (HB.out.cell (World.block_lt_of_cell? w _ hx55005_2)).trans hx55005_2
           replace hx55005_3 := (HB.out.cell (World.block_lt_of_cell? w _ hx55005_3)).trans hx55005_3
           have HR55005_3 := Aside0.mk hi55005_3
           have HC55005_3 := Aside0.mk hl55005_3
           clear hi55005_3 hl55005_3
           replace p55005 := eq_true p55005
           replace q55005 := eq_true q55005
           have p55006 : 0 ≤ (x4_1 : Int) := of_decide_eq_true (by first | (with_reducible assumption) | assumption)
           have q55006 : x4_1 < (l0.length : Int) := of_decide_eq_true (by first | (with_reducible assumption) | assumption)
           obtain ⟨ad55006, A55006_3, c55006_3, e55006, hx55006_0, hx55006_1, hx55006_2, hx55006_3, hl55006_3, hi55006_3⟩ := at_T27 HR0.out x4_1 p55006 q55006
           have hw55006_3 := hx55006_3
           have hw55006_2 := hx55006_2
           have hw55006_1 := hx55006_1
           have hw55006_0 := hx55006_0
           obtain rfl : ad55003 = ad55006 := (by injection e55006)
           replace hx55006_0 := (HB.out.cell (World.block_lt_of_cell? w _ hx55006_0)).trans hx55006_0
           replace hx55006_1 := (HB.out.cell (World.block_lt_of_cell? w _ hx55006_1)).trans hx55006_1
           replace hx55006_2 := (HB.out.cell (World.block_lt_of_cell? w _ hx55006_2)).trans hx55006_2
           replace hx55006_3 := (HB.out.cell (World.block_lt_of_cell? w _ hx55006_3)).trans hx55006_3
           have HR55006_3 := Aside0.mk hi55006_3
           have HC55006_3 := Aside0.mk hl55006_3
           clear hi55006_3 hl55006_3
           replace p55006 := eq_true p55006
           replace q55006 := eq_true q55006
           have ea_ := Option.some.inj (hx55005_3.symm.trans hx55006_3)
           injection ea_ with ea_ en_ ec_
           subst ea_
           subst ec_
           clear en_
           have p55007 : 0 ≤ (0 : Int) := (by omega)
           have q55007 : 0 < (l0.length : Int) := of_decide_eq_true (by first | (with_reducible assumption) | assumption)
           obtain ⟨ad55007, A55007_3, c55007_3, e55007, hx55007_0, hx55007_1, hx55007_2, hx55007_3, hl55007_3, hi55007_3⟩ := at_T27 HR0.out 0 p55007 q55007
           have hw55007_3 := hx55007_3
           (try rw [show ((0 : Int)).toNat = 0 from rfl] at hw55007_3)
           (try rw [show 0 * 4 = 0 from rfl] at hw55007_3)
           (try rw [Addr.add_zero'] at hw55007_3)
           have hw55007_2 := hx55007_2
           (try rw [show ((0 : Int)).toNat = 0 from rfl] at hw55007_2)
           (try rw [show 0 * 4 = 0 from rfl] at hw55007_2)
           (try rw [Addr.add_zero'] at hw55007_2)
           have hw55007_1 := hx55007_1
           (try rw [show ((0 : Int)).toNat = 0 from rfl] at hw55007_1)
           (try rw [show 0 * 4 = 0 from rfl] at hw55007_1)
           (try rw [Addr.add_zero'] at hw55007_1)
           have hw55007_0 := hx55007_0
           (try rw [show ((0 : Int)).toNat = 0 from rfl] at hw55007_0)
           (try rw [show 0 * 4 = 0 from rfl] at hw55007_0)
           (try rw [Addr.add_zero'] at hw55007_0)
           obtain rfl : ad55003 = ad55007 := (by injection e55007)
           have qi55007 : (0 < l0.length) = True := eq_true (by omega)
           (try rw [show ((0 : Int)).toNat = 0 from rfl] at hx55007_0)
           (try rw [show 0 * 4 = 0 from rfl] at hx55007_0)
           (try rw [Addr.add_zero'] at hx55007_0)
           (try rw [show ((0 : Int)).toNat = 0 from rfl] at hx55007_1)
           (try rw [show 0 * 4 = 0 from rfl] at hx55007_1)
           (try rw [Addr.add_zero'] at hx55007_1)
           (try rw [show ((0 : Int)).toNat = 0 from rfl] at hx55007_2)
           (try rw [show 0 * 4 = 0 from rfl] at hx55007_2)
           (try rw [Addr.add_zero'] at hx55007_2)
           (try rw [show ((0 : Int)).toNat = 0 from rfl] at hx55007_3)
           (try rw [show 0 * 4 = 0 from rfl] at hx55007_3)
           (try rw [Addr.add_zero'] at hx55007_3)
           replace hx55007_0 := (HB.out.cell (World.block_lt_of_cell? w _ hx55007_0)).trans hx55007_0
           replace hx55007_1 := (HB.out.cell (World.block_lt_of_cell? w _ hx55007_1)).trans hx55007_1
           replace hx55007_2 := (HB.out.cell (World.block_lt_of_cell? w _ hx55007_2)).trans hx55007_2
           replace hx55007_3 := (HB.out.cell (World.block_lt_of_cell? w _ hx55007_3)).trans hx55007_3
           have HR55007_3 := Aside0.mk hi55007_3
           have HC55007_3 := Aside0.mk hl55007_3
           clear hi55007_3 hl55007_3
           replace p55007 := eq_true p55007
           replace q55007 := eq_true q55007
           have p55008 : 0 ≤ (x4_1 : Int) := of_decide_eq_true (by first | (with_reducible assumption) | assumption)
           have q55008 : x4_1 < (l0.length : Int) := of_decide_eq_true (by first | (with_reducible assumption) | assumption)
           obtain ⟨ad55008, A55008_3, c55008_3, e55008, hx55008_0, hx55008_1, hx55008_2, hx55008_3, hl55008_3, hi55008_3⟩ := at_T27 HR0.out x4_1 p55008 q55008
           have hw55008_3 := hx55008_3
           have hw55008_2 := hx55008_2
           have hw55008_1 := hx55008_1
           have hw55008_0 := hx55008_0
           obtain rfl : ad55003 = ad55008 := (by injection e55008)
           replace hx55008_0 := (HB.out.cell (World.block_lt_of_cell? w _ hx55008_0)).trans hx55008_0
           replace hx55008_1 := (HB.out.cell (World.block_lt_of_cell? w _ hx55008_1)).trans hx55008_1
           replace hx55008_2 := (HB.out.cell (World.block_lt_of_cell? w _ hx55008_2)).trans hx55008_2
           replace hx55008_3 := (HB.out.cell (World.block_lt_of_cell? w _ hx55008_3)).trans hx55008_3
           have HR55008_3 := Aside0.mk hi55008_3
           have HC55008_3 := Aside0.mk hl55008_3
           clear hi55008_3 hl55008_3
           replace p55008 := eq_true p55008
           replace q55008 := eq_true q55008
           have ea_ := Option.some.inj (hx55005_3.symm.trans hx55008_3)
           injection ea_ with ea_ en_ ec_
           subst ea_
           subst ec_
           clear en_
           have p55009 : 0 ≤ (0 : Int) := (by omega)
           have q55009 : 0 < (l0.length : Int) := of_decide_eq_true (by first | (with_reducible assumption) | assumption)
           obtain ⟨ad55009, A55009_3, c55009_3, e55009, hx55009_0, hx55009_1, hx55009_2, hx55009_3, hl55009_3, hi55009_3⟩ := at_T27 HR0.out 0 p55009 q55009
           have hw55009_3 := hx55009_3
           (try rw [show ((0 : Int)).toNat = 0 from rfl] at hw55009_3)
           (try rw [show 0 * 4 = 0 from rfl] at hw55009_3)
           (try rw [Addr.add_zero'] at hw55009_3)
           have hw55009_2 := hx55009_2
           (try rw [show ((0 : Int)).toNat = 0 from rfl] at hw55009_2)
           (try rw [show 0 * 4 = 0 from rfl] at hw55009_2)
           (try rw [Addr.add_zero'] at hw55009_2)
           have hw55009_1 := hx55009_1
           (try rw [show ((0 : Int)).toNat = 0 from rfl] at hw55009_1)
           (try rw [show 0 * 4 = 0 from rfl] at hw55009_1)
           (try rw [Addr.add_zero'] at hw55009_1)
           have hw55009_0 := hx55009_0
           (try rw [show ((0 : Int)).toNat = 0 from rfl] at hw55009_0)
           (try rw [show 0 * 4 = 0 from rfl] at hw55009_0)
           (try rw [Addr.add_zero'] at hw55009_0)
           obtain rfl : ad55003 = ad55009 := (by injection e55009)
           have qi55009 : (0 < l0.length) = True := eq_true (by omega)
           (try rw [show ((0 : Int)).toNat = 0 from rfl] at hx55009_0)
           (try rw [show 0 * 4 = 0 from rfl] at hx55009_0)
           (try rw [Addr.add_zero'] at hx55009_0)
           (try rw [show ((0 : Int)).toNat = 0 from rfl] at hx55009_1)
           (try rw [show 0 * 4 = 0 from rfl] at hx55009_1)
           (try rw [Addr.add_zero'] at hx55009_1)
           (try rw [show ((0 : Int)).toNat = 0 from rfl] at hx55009_2)
           (try rw [show 0 * 4 = 0 from rfl] at hx55009_2)
           (try rw [Addr.add_zero'] at hx55009_2)
           (try rw [show ((0 : Int)).toNat = 0 from rfl] at hx55009_3)
           (try rw [show 0 * 4 = 0 from rfl] at hx55009_3)
           (try rw [Addr.add_zero'] at hx55009_3)
           replace hx55009_0 := (HB.out.cell (World.block_lt_of_cell? w _ hx55009_0)).trans hx55009_0
           replace hx55009_1 := (HB.out.cell (World.block_lt_of_cell? w _ hx55009_1)).trans hx55009_1
           replace hx55009_2 := (HB.out.cell (World.block_lt_of_cell? w _ hx55009_2)).trans hx55009_2
           replace hx55009_3 := (HB.out.cell (World.block_lt_of_cell? w _ hx55009_3)).trans hx55009_3
           have HR55009_3 := Aside0.mk hi55009_3
           have HC55009_3 := Aside0.mk hl55009_3
           clear hi55009_3 hl55009_3
           replace p55009 := eq_true p55009
           replace q55009 := eq_true q55009
           have ea_ := Option.some.inj (hx55007_3.symm.trans hx55009_3)
           injection ea_ with ea_ en_ ec_
           subst ea_
           subst ec_
           clear en_
           refine start_ (n := 38) (S := fun w' => w'.cell? (ad55003.add ((x4_1).toNat * 4)) = some (.int .i64 ((rd_T27 l0 x4_1).f0)) ∧ w'.cell? ⟨(ad55003.add ((x4_1).toNat * 4)).block, (ad55003.add ((x4_1).toNat * 4)).off + 1, none⟩ = some (.int .i64 ((rd_T27 l0 x4_1).f1)) ∧ w'.cell? ⟨(ad55003.add ((x4_1).toNat * 4)).block, (ad55003.add ((x4_1).toNat * 4)).off + 2, none⟩ = some (.int .i64 ((rd_T27 l0 x4_1).f2)) ∧ w'.cell? ⟨(ad55003.add ((x4_1).toNat * 4)).block, (ad55003.add ((x4_1).toNat * 4)).off + 3, none⟩ = some (.slice A55003_3 ((rd_T27 l0 x4_1).f3).length c55003_3) ∧ w'.cell? (ad55003.add ((x4_1).toNat * 4)) = some (.int .i64 ((rd_T27 l0 x4_1).f0)) ∧ w'.cell? ⟨(ad55003.add ((x4_1).toNat * 4)).block, (ad55003.add ((x4_1).toNat * 4)).off + 1, none⟩ = some (.int .i64 ((rd_T27 l0 x4_1).f1)) ∧ w'.cell? ⟨(ad55003.add ((x4_1).toNat * 4)).block, (ad55003.add ((x4_1).toNat * 4)).off + 2, none⟩ = some (.int .i64 ((rd_T27 l0 x4_1).f2)) ∧ w'.cell? ⟨(ad55003.add ((x4_1).toNat * 4)).block, (ad55003.add ((x4_1).toNat * 4)).off + 3, none⟩ = some (.slice A55005_3 ((rd_T27 l0 x4_1).f3).length c55005_3) ∧ w'.cell? (ad55003.add ((x4_1).toNat * 4)) = some (.int .i64 ((rd_T27 l0 x4_1).f0)) ∧ w'.cell? ⟨(ad55003.add ((x4_1).toNat * 4)).block, (ad55003.add ((x4_1).toNat * 4)).off + 1, none⟩ = some (.int .i64 ((rd_T27 l0 x4_1).f1)) ∧ w'.cell? ⟨(ad55003.add ((x4_1).toNat * 4)).block, (ad55003.add ((x4_1).toNat * 4)).off + 2, none⟩ = some (.int .i64 ((rd_T27 l0 x4_1).f2)) ∧ w'.cell? ⟨(ad55003.add ((x4_1).toNat * 4)).block, (ad55003.add ((x4_1).toNat * 4)).off + 3, none⟩ = some (.slice A55005_3 ((rd_T27 l0 x4_1).f3).length c55005_3) ∧ w'.cell? ad55003 = some (.int .i64 ((rd_T27 l0 0).f0)) ∧ w'.cell? ⟨ad55003.block, ad55003.off + 1, none⟩ = some (.int .i64 ((rd_T27 l0 0).f1)) ∧ w'.cell? ⟨ad55003.block, ad55003.off + 2, none⟩ = some (.int .i64 ((rd_T27 l0 0).f2)) ∧ w'.cell? ⟨ad55003.block, ad55003.off + 3, none⟩ = some (.slice A55007_3 ((rd_T27 l0 0).f3).length c55007_3) ∧ w'.cell? (ad55003.add ((x4_1).toNat * 4)) = some (.int .i64 ((rd_T27 l0 x4_1).f0)) ∧ w'.cell? ⟨(ad55003.add ((x4_1).toNat * 4)).block, (ad55003.add ((x4_1).toNat * 4)).off + 1, none⟩ = some (.int .i64 ((rd_T27 l0 x4_1).f1)) ∧ w'.cell? ⟨(ad55003.add ((x4_1).toNat * 4)).block, (ad55003.add ((x4_1).toNat * 4)).off + 2, none⟩ = some (.int .i64 ((rd_T27 l0 x4_1).f2)) ∧ w'.cell? ⟨(ad55003.add ((x4_1).toNat * 4)).block, (ad55003.add ((x4_1).toNat * 4)).off + 3, none⟩ = some (.slice A55005_3 ((rd_T27 l0 x4_1).f3).length c55005_3) ∧ w'.cell? ad55003 = some (.int .i64 ((rd_T27 l0 0).f0)) ∧ w'.cell? ⟨ad55003.block, ad55003.off + 1, none⟩ = some (.int .i64 ((rd_T27 l0 0).f1)) ∧ w'.cell? ⟨ad55003.block, ad55003.off + 2, none⟩ = some (.int .i64 ((rd_T27 l0 0).f2)) ∧ w'.cell? ⟨ad55003.block, ad55003.off + 3, none⟩ = some (.slice A55007_3 ((rd_T27 l0 0).f3).length c55007_3)) (ds := []) #[false, false, false, false, false, false, false, false, false, false, false, false, false, false, false, false, false, false, false, false, false, false, false, false, false, false, false, false, false, false, false, false, false, false, false, false, false, false] (by kernel_rfl) rfl rfl ⟨((HB.out.cell (World.block_lt_of_cell? w _ hw55003_0)).trans hw55003_0), ((HB.out.cell (World.block_lt_of_cell? w _ hw55003_1)).trans hw55003_1), ((HB.out.cell (World.block_lt_of_cell? w _ hw55003_2)).trans hw55003_2), ((HB.out.cell (World.block_lt_of_cell? w _ hw55003_3)).trans hw55003_3), ((HB.out.cell (World.block_lt_of_cell? w _ hw55005_0)).trans hw55005_0), ((HB.out.cell (World.block_lt_of_cell? w _ hw55005_1)).trans hw55005_1), ((HB.out.cell (World.block_lt_of_cell? w _ hw55005_2)).trans hw55005_2), ((HB.out.cell (World.block_lt_of_cell? w _ hw55005_3)).trans hw55005_3), ((HB.out.cell (World.block_lt_of_cell? w _ hw55006_0)).trans hw55006_0), ((HB.out.cell (World.block_lt_of_cell? w _ hw55006_1)).trans hw55006_1), ((HB.out.cell (World.block_lt_of_cell? w _ hw55006_2)).trans hw55006_2), ((HB.out.cell (World.block_lt_of_cell? w _ hw55006_3)).trans hw55006_3), ((HB.out.cell (World.block_lt_of_cell? w _ hw55007_0)).trans hw55007_0), ((HB.out.cell (World.block_lt_of_cell? w _ hw55007_1)).trans hw55007_1), ((HB.out.cell (World.block_lt_of_cell? w _ hw55007_2)).trans hw55007_2), ((HB.out.cell (World.block_lt_of_cell? w _ hw55007_3)).trans hw55007_3), ((HB.out.cell (World.block_lt_of_cell? w _ hw55008_0)).trans hw55008_0), ((HB.out.cell (World.block_lt_of_cell? w _ hw55008_1)).trans hw55008_1), ((HB.out.cell (World.block_lt_of_cell? w _ hw55008_2)).trans hw55008_2), ((HB.out.cell (World.block_lt_of_cell? w _ hw55008_3)).trans hw55008_3), ((HB.out.cell (World.block_lt_of_cell? w _ hw55009_0)).trans hw55009_0), ((HB.out.cell (World.block_lt_of_cell? w _ hw55009_1)).trans hw55009_1), ((HB.out.cell (World.block_lt_of_cell? w _ hw55009_2)).trans hw55009_2), ((HB.out.cell (World.block_lt_of_cell? w _ hw55009_3)).trans hw55009_3)⟩ (fun hHeld => ?_); refine with_tabW spec_MergePlanes.tab6 spec_MergePlanes.bits6 (fun HT_ HW_ => ?_)
           generalize wr.drew = w15 at BK55001 HB HR55003_3 HR55005_3 HR55006_3 HR55007_3 HR55008_3 HR55009_3 hx55003_0 hx55003_1 hx55003_2 hx55003_3 hx55005_0 hx55005_1 hx55005_2 hx55005_3 hx55006_0 hx55006_1 hx55006_2 hx55006_3 hx55007_0 hx55007_1 hx55007_2 hx55007_3 hx55008_0 hx55008_1 hx55008_2 hx55008_3 hx55009_0 hx55009_1 hx55009_2 hx55009_3 hHeld ⊢
           refine pu 0 18 ?_ ?_ rfl rfl (any_of HT_.out (by kernel_rfl)) (Or.inl ⟨by rfl, ?_⟩) ?_ ?_
           rotate_left 2
           ·intro w'
            go_simp
            with_reducible rfl
           ·simp only [seval]
            rfl
           refine pu 1 19 ?_ ?_ rfl rfl (any_of HT_.out (by kernel_rfl)) (Or.inl ⟨by rfl, ?_⟩) ?_ ?_
           rotate_left 2
           ·intro w'
            go_simp
            with_reducible rfl
           ·simp only [seval]
            rfl
           refine pu 2 20 ?_ ?_ rfl rfl (any_of HT_.out (by kernel_rfl)) (Or.inl ⟨by rfl, ?_⟩) ?_ ?_
           rotate_left 2
           ·intro w'
            go_simp
            with_reducible rfl
           ·simp only [seval]
            rfl
           refine tk 3 21 ?_ ?_ rfl rfl (take_ofW HT_.out HW_.out (by kernel_rfl)) (Or.inl ⟨by rfl, ?_⟩) hHeld ?_ ?_
           rotate_left 2
           ·rintro w' ⟨s0, s1, s2, s3, s4, s5, s6, s7, s8, s9, s10, s11, s12, s13, s14, s15, s16, s17, s18, s19, s20, s21, s22, s23⟩
            go_simp
            with_reducible rfl
           ·simp only [seval]
            rfl
           refine one_ (i := 4) (N := some 22) #[true, true, true, true, true, false, false, false, false, false, false, false, false, false, false, false, false, false, false, false, false, false, false, false, false, false, false, false, false, false, false, false, false, false, false, false, false, false] rfl rfl (one_of HT_.out (by kernel_rfl)) (by decide) (fun K hK => ?_)
           refine goes_ Try.func89 (by kernel_rfl) rfl #[.agg #[.int .i64 ((rd_T27 l0 x4_1).f0), .int .i64 ((rd_T27 l0 x4_1).f1), .int .i64 ((rd_T27 l0 x4_1).f2), .slice A55003_3 ((rd_T27 l0 x4_1).f3).length c55003_3]] (by rfl) rfl rfl (by (try simp only [bitvec_to_nat]); first | done | rfl | (simp only [List.length_drop, List.length_take]; rfl)) ?_
           with_reducible refine (spec_validImage.calls k1 ((rd_T27 l0 x4_1).f0) ((rd_T27 l0 x4_1).f1) ((rd_T27 l0 x4_1).f2) _ _ ((rd_T27 l0 x4_1).f3) true _ ?side1 ?side2 A7.out).mono ?_
           (case side1 => repeat (first | exact (Kd.C_below HR55003_3.out HB.out) | (with_reducible refine Kd.C_alloc ?_ _) | (with_reducible refine Kd.C_drewN ?_ _) | (with_reducible refine Kd.C_drew ?_)))
           (case side2 => exact HC55003_3.out)
           rintro e w16 ⟨rfl, hb⟩
           refine ⟨_, rfl, ?_⟩
           have n0_ := Aside0.mk (blk_below (g := gb55001) (o := .cells #[.int .i64 x55002000_1, .int .i64 x55002001_1, .int .i64 x55002002_1, .slice none 0 0] 27 (0, 0)) (by (with_reducible repeat (first | refine blk_drewN ?_ _ | refine blk_drew ?_ | refine blk_alloc ?_ _)); exact BK55001.out) hb)
           have n1_ := Aside0.mk (below_step (by repeat (first | (with_reducible first | exact HB.out | apply below_alloc | apply pw_below_drewN | apply below_drew1 | refine below_set ?_ GE55001.out) | exact HB.out)) hb)
           clear BK55001
           clear HB
           have BK55001 := n0_
           have HB := n1_
           clear n0_ n1_
           (try clear hb)
           (try clear hb2)
           (try clear hk)
           (try clear hi)
           refine hK.out _ _ ⟨((HB.out.cell (World.block_lt_of_cell? w _ hw55003_0)).trans hw55003_0), ((HB.out.cell (World.block_lt_of_cell? w _ hw55003_1)).trans hw55003_1), ((HB.out.cell (World.block_lt_of_cell? w _ hw55003_2)).trans hw55003_2), ((HB.out.cell (World.block_lt_of_cell? w _ hw55003_3)).trans hw55003_3), ((HB.out.cell (World.block_lt_of_cell? w _ hw55005_0)).trans hw55005_0), ((HB.out.cell (World.block_lt_of_cell? w _ hw55005_1)).trans hw55005_1), ((HB.out.cell (World.block_lt_of_cell? w _ hw55005_2)).trans hw55005_2), ((HB.out.cell (World.block_lt_of_cell? w _ hw55005_3)).trans hw55005_3), ((HB.out.cell (World.block_lt_of_cell? w _ hw55006_0)).trans hw55006_0), ((HB.out.cell (World.block_lt_of_cell? w _ hw55006_1)).trans hw55006_1), ((HB.out.cell (World.block_lt_of_cell? w _ hw55006_2)).trans hw55006_2), ((HB.out.cell (World.block_lt_of_cell? w _ hw55006_3)).trans hw55006_3), ((HB.out.cell (World.block_lt_of_cell? w _ hw55007_0)).trans hw55007_0), ((HB.out.cell (World.block_lt_of_cell? w _ hw55007_1)).trans hw55007_1), ((HB.out.cell (World.block_lt_of_cell? w _ hw55007_2)).trans hw55007_2), ((HB.out.cell (World.block_lt_of_cell? w _ hw55007_3)).trans hw55007_3), ((HB.out.cell (World.block_lt_of_cell? w _ hw55008_0)).trans hw55008_0), ((HB.out.cell (World.block_lt_of_cell? w _ hw55008_1)).trans hw55008_1), ((HB.out.cell (World.block_lt_of_cell? w _ hw55008_2)).trans hw55008_2), ((HB.out.cell (World.block_lt_of_cell? w _ hw55008_3)).trans hw55008_3), ((HB.out.cell (World.block_lt_of_cell? w _ hw55009_0)).trans hw55009_0), ((HB.out.cell (World.block_lt_of_cell? w _ hw55009_1)).trans hw55009_1), ((HB.out.cell (World.block_lt_of_cell? w _ hw55009_2)).trans hw55009_2), ((HB.out.cell (World.block_lt_of_cell? w _ hw55009_3)).trans hw55009_3)⟩ (fun hHeld => ?_)
           clear hK K
           refine norm_ (a' := ?_) ?_ ?_
           rotate_left
           ·show Act.put _ (some 22) _ = _
            simp only [seval]
            rfl
           refine pu 5 23 ?_ ?_ rfl rfl (any_of HT_.out (by kernel_rfl)) (Or.inl ⟨by rfl, ?_⟩) ?_ ?_
           rotate_left 2
           ·intro w'
            go_simp
            with_reducible rfl
           ·simp only [seval]
            rfl
           refine pu 6 24 ?_ ?_ rfl rfl (any_of HT_.out (by kernel_rfl)) (Or.inl ⟨by rfl, ?_⟩) ?_ ?_
           rotate_left 2
           ·intro w'
            go_simp
            with_reducible rfl
           ·simp only [seval]
            rfl
           refine pu 7 25 ?_ ?_ rfl rfl (any_of HT_.out (by kernel_rfl)) (Or.inl ⟨by rfl, ?_⟩) ?_ ?_
           rotate_left 2
           ·intro w'
            go_simp
            with_reducible rfl
           ·simp only [seval]
            rfl
           refine pu 8 26 ?_ ?_ rfl rfl (any_of HT_.out (by kernel_rfl)) (Or.inl ⟨by rfl, ?_⟩) ?_ ?_
           rotate_left 2
           ·intro w'
            go_simp
            with_reducible rfl
           ·simp only [seval]
            rfl
           refine pu 9 27 ?_ ?_ rfl rfl (any_of HT_.out (by kernel_rfl)) (Or.inl ⟨by rfl, ?_⟩) ?_ ?_
           rotate_left 2
           ·intro w'
            go_simp
            with_reducible rfl
           ·simp only [seval]
            rfl
           refine pu 10 28 ?_ ?_ rfl rfl (any_of HT_.out (by kernel_rfl)) (Or.inl ⟨by rfl, ?_⟩) ?_ ?_
           rotate_left 2
           ·intro w'
            go_simp
            with_reducible rfl
           ·simp only [seval]
            rfl
           refine tk 11 29 ?_ ?_ rfl rfl (take_ofW HT_.out HW_.out (by kernel_rfl)) (Or.inl ⟨by rfl, ?_⟩) hHeld ?_ ?_
           rotate_left 2
           ·rintro w' ⟨s0, s1, s2, s3, s4, s5, s6, s7, s8, s9, s10, s11, s12, s13, s14, s15, s16, s17, s18, s19, s20, s21, s22, s23⟩
            go_simp
            with_reducible rfl
           ·simp only [seval]
            rfl
           refine pu 12 30 ?_ ?_ rfl rfl (any_of HT_.out (by kernel_rfl)) (Or.inl ⟨by rfl, ?_⟩) ?_ ?_
           rotate_left 2
           ·intro w'
            go_simp
            with_reducible rfl
           ·simp only [seval]
            rfl
           refine pu 13 31 ?_ ?_ rfl rfl (any_of HT_.out (by kernel_rfl)) (Or.inl ⟨by rfl, ?_⟩) ?_ ?_
           rotate_left 2
           ·intro w'
            go_simp
            with_reducible rfl
           ·simp only [seval]
            rfl
           refine pu 14 32 ?_ ?_ rfl rfl (any_of HT_.out (by kernel_rfl)) (Or.inl ⟨by rfl, ?_⟩) ?_ ?_
           rotate_left 2
           ·intro w'
            go_simp
            with_reducible rfl
           ·simp only [seval]
            rfl
           refine pu 15 33 ?_ ?_ rfl rfl (any_of HT_.out (by kernel_rfl)) (Or.inl ⟨by rfl, ?_⟩) ?_ ?_
           rotate_left 2
           ·intro w'
            go_simp
            with_reducible rfl
           ·simp only [seval]
            rfl
           refine pu 16 34 ?_ ?_ rfl rfl (any_of HT_.out (by kernel_rfl)) (Or.inl ⟨by rfl, ?_⟩) ?_ ?_
           rotate_left 2
           ·intro w'
            go_simp
            with_reducible rfl
           ·simp only [seval]
            rfl
           refine pu 17 35 ?_ ?_ rfl rfl (any_of HT_.out (by kernel_rfl)) (Or.inl ⟨by rfl, ?_⟩) ?_ ?_
           rotate_left 2
           ·intro w'
            go_simp
            with_reducible rfl
           ·simp only [seval]
            rfl
           refine pu 18 36 ?_ ?_ rfl rfl (any_of HT_.out (by kernel_rfl)) (Or.inl ⟨by rfl, ?_⟩) ?_ ?_
           rotate_left 2
           ·intro w'
            go_simp
            with_reducible rfl
           ·simp only [seval]
            rfl
           refine pu 20 38 ?_ ?_ rfl rfl (any_of HT_.out (by kernel_rfl)) (Or.inl ⟨by rfl, ?_⟩) ?_ ?_
           rotate_left 2
           ·intro w'
            go_simp
            with_reducible rfl
           ·simp only [seval]
            rfl
           refine pu 21 39 ?_ ?_ rfl rfl (any_of HT_.out (by kernel_rfl)) (Or.inl ⟨by rfl, ?_⟩) ?_ ?_
           rotate_left 2
           ·intro w'
            go_simp
            with_reducible rfl
           ·simp only [seval]
            rfl
           refine pu 22 40 ?_ ?_ rfl rfl (any_of HT_.out (by kernel_rfl)) (Or.inl ⟨by rfl, ?_⟩) ?_ ?_
           rotate_left 2
           ·intro w'
            go_simp
            with_reducible rfl
           ·simp only [seval]
            rfl
           refine tk 19 37 ?_ ?_ rfl rfl (take_ofW HT_.out HW_.out (by kernel_rfl)) (Or.inl ⟨by rfl, ?_⟩) hHeld ?_ ?_
           rotate_left 2
           ·rintro w' ⟨s0, s1, s2, s3, s4, s5, s6, s7, s8, s9, s10, s11, s12, s13, s14, s15, s16, s17, s18, s19, s20, s21, s22, s23⟩
            go_simp
            with_reducible rfl
           ·simp only [seval]
            rfl
           refine tk 23 41 ?_ ?_ rfl rfl (take_ofW HT_.out HW_.out (by kernel_rfl)) (Or.inl ⟨by rfl, ?_⟩) hHeld ?_ ?_
           rotate_left 2
           ·rintro w' ⟨s0, s1, s2, s3, s4, s5, s6, s7, s8, s9, s10, s11, s12, s13, s14, s15, s16, s17, s18, s19, s20, s21, s22, s23⟩
            go_simp
            with_reducible rfl
           ·simp only [seval]
            rfl
           refine pu 24 42 ?_ ?_ rfl rfl (any_of HT_.out (by kernel_rfl)) (Or.inl ⟨by rfl, ?_⟩) ?_ ?_
           rotate_left 2
           ·intro w'
            go_simp
            with_reducible rfl
           ·simp only [seval]
            rfl
           refine pu 25 43 ?_ ?_ rfl rfl (any_of HT_.out (by kernel_rfl)) (Or.inl ⟨by rfl, ?_⟩) ?_ ?_
           rotate_left 2
           ·intro w'
            go_simp
            with_reducible rfl
           ·simp only [seval]
            rfl
           refine pu 26 44 ?_ ?_ rfl rfl (any_of HT_.out (by kernel_rfl)) (Or.inl ⟨by rfl, ?_⟩) ?_ ?_
           rotate_left 2
           ·intro w'
            go_simp
            with_reducible rfl
           ·simp only [seval]
            rfl
           refine pu 27 45 ?_ ?_ rfl rfl (any_of HT_.out (by kernel_rfl)) (Or.inl ⟨by rfl, ?_⟩) ?_ ?_
           rotate_left 2
           ·intro w'
            go_simp
            with_reducible rfl
           ·simp only [seval]
            rfl
           refine pu 28 46 ?_ ?_ rfl rfl (any_of HT_.out (by kernel_rfl)) (Or.inl ⟨by rfl, ?_⟩) ?_ ?_
           rotate_left 2
           ·intro w'
            go_simp
            with_reducible rfl
           ·simp only [seval]
            rfl
           refine pu 29 47 ?_ ?_ rfl rfl (any_of HT_.out (by kernel_rfl)) (Or.inl ⟨by rfl, ?_⟩) ?_ ?_
           rotate_left 2
           ·intro w'
            go_simp
            with_reducible rfl
           ·simp only [seval]
            rfl
           refine pu 30 48 ?_ ?_ rfl rfl (any_of HT_.out (by kernel_rfl)) (Or.inl ⟨by rfl, ?_⟩) ?_ ?_
           rotate_left 2
           ·intro w'
            go_simp
            with_reducible rfl
           ·simp only [seval]
            rfl
           refine pu 32 50 ?_ ?_ rfl rfl (any_of HT_.out (by kernel_rfl)) (Or.inl ⟨by rfl, ?_⟩) ?_ ?_
           rotate_left 2
           ·intro w'
            go_simp
            with_reducible rfl
           ·simp only [seval]
            rfl
           refine pu 33 51 ?_ ?_ rfl rfl (any_of HT_.out (by kernel_rfl)) (Or.inl ⟨by rfl, ?_⟩) ?_ ?_
           rotate_left 2
           ·intro w'
            go_simp
            with_reducible rfl
           ·simp only [seval]
            rfl
           refine pu 34 52 ?_ ?_ rfl rfl (any_of HT_.out (by kernel_rfl)) (Or.inl ⟨by rfl, ?_⟩) ?_ ?_
           rotate_left 2
           ·intro w'
            go_simp
            with_reducible rfl
           ·simp only [seval]
            rfl
           refine tk 31 49 ?_ ?_ rfl rfl (take_ofW HT_.out HW_.out (by kernel_rfl)) (Or.inl ⟨by rfl, ?_⟩) hHeld ?_ ?_
           rotate_left 2
           ·rintro w' ⟨s0, s1, s2, s3, s4, s5, s6, s7, s8, s9, s10, s11, s12, s13, s14, s15, s16, s17, s18, s19, s20, s21, s22, s23⟩
            go_simp
            with_reducible rfl
           ·simp only [seval]
            rfl
           refine tk 35 53 ?_ ?_ rfl rfl (take_ofW HT_.out HW_.out (by kernel_rfl)) (Or.inl ⟨by rfl, ?_⟩) hHeld ?_ ?_
           rotate_left 2
           ·rintro w' ⟨s0, s1, s2, s3, s4, s5, s6, s7, s8, s9, s10, s11, s12, s13, s14, s15, s16, s17, s18, s19, s20, s21, s22, s23⟩
            go_simp
            with_reducible rfl
           ·simp only [seval]
            rfl
           refine pu 36 54 ?_ ?_ rfl rfl (any_of HT_.out (by kernel_rfl)) (Or.inl ⟨by rfl, ?_⟩) ?_ ?_
           rotate_left 2
           ·intro w'
            go_simp
            with_reducible rfl
           ·simp only [seval]
            rfl
           refine pu 37 55 ?_ ?_ rfl rfl (any_of HT_.out (by kernel_rfl)) (Or.inl ⟨by rfl, ?_⟩) ?_ ?_
           rotate_left 2
           ·intro w'
            go_simp
            with_reducible rfl
           ·simp only [seval]
            rfl
           refine done_ (done_of HT_.out (by kernel_rfl)) ?_
           have hcz17_0 : w16.cell? ⟨gb55001, 0, none⟩ = some (.int .i64 x55002000_1) := (blk_cell BK55001.out 0).trans rfl
           have hcz17_1 : w16.cell? ⟨gb55001, 1, none⟩ = some (.int .i64 x55002001_1) := (blk_cell BK55001.out 1).trans rfl
           have hcz17_2 : w16.cell? ⟨gb55001, 2, none⟩ = some (.int .i64 x55002002_1) := (blk_cell BK55001.out 2).trans rfl
           have hcz17_3 : w16.cell? ⟨gb55001, 3, none⟩ = some (.slice none 0 0) := (blk_cell BK55001.out 3).trans rfl
           have hfz17_0 := blk_frozen BK55001.out 0
           have hfz17_1 := blk_frozen BK55001.out 1
           have hfz17_2 := blk_frozen BK55001.out 2
           have hfz17_3 := blk_frozen BK55001.out 3
           try go_wp2
           refine bodyPost_ret (results_ct rfl _ _ gb55001 27 #[.int .i64 0, .int .i64 0, .int .i64 0, .slice none 0 0] (0, 0) _ rfl (by (with_reducible repeat (first | refine blk_drewN ?_ _ | refine blk_drew ?_ | refine blk_alloc ?_ _)); refine blk_put (cs := #[.int .i64 0, .int .i64 0, .int .i64 0, .slice none 0 0]) ?_ 3 _ rfl; (with_reducible repeat (first | refine blk_drewN ?_ _ | refine blk_drew ?_ | refine blk_alloc ?_ _)); refine blk_put (cs := #[.int .i64 0, .int .i64 0, .int .i64 x55002002_1, .slice none 0 0]) ?_ 2 _ rfl; (with_reducible repeat (first | refine blk_drewN ?_ _ | refine blk_drew ?_ | refine blk_alloc ?_ _)); refine blk_put (cs := #[.int .i64 0, .int .i64 x55002001_1, .int .i64 x55002002_1, .slice none 0 0]) ?_ 1 _ rfl; (with_reducible repeat (first | refine blk_drewN ?_ _ | refine blk_drew ?_ | refine blk_alloc ?_ _)); refine blk_put (cs := #[.int .i64 x55002000_1, .int .i64 x55002001_1, .int .i64 x55002002_1, .slice none 0 0]) ?_ 0 _ rfl; (with_reducible repeat (first | refine blk_drewN ?_ _ | refine blk_drew ?_ | refine blk_alloc ?_ _)); exact BK55001.out) Try.underlying27 rfl (by kernel_rfl)) rfl ?_
           exact ⟨_, by first | rfl | (simp [errW_none, errW_some] <;> rfl) | (simp [*, errW_none, errW_some] <;> rfl), by first | exact Kd.R_nil _ _ _ _ _ | exact Kd.N_nil _ _ _ _ _ | exact Kd.V_nil _ _ _ _ _ | exact Kd.Q_nil _ _ _ _ _ | exact Kd.S_nil _ _ _ _ _, by repeat (first | (with_reducible first | exact HB.out | apply below_alloc | apply pw_below_drewN | apply below_drew1 | refine below_set ?_ GE55001.out) | exact HB.out)⟩
         ·rw [if_neg c11] at H
          have c11b0 : (((rd_T27 l0 x4_1).f0) == ((rd_T27 l0 0).f0)) = false := beq_eq_false_iff_ne.mpr c11
          have c11b1 : (((rd_T27 l0 x4_1).f0) != ((rd_T27 l0 0).f0)) = true := bne_iff_ne.mpr c11
          simp only [Option.some.injEq, Prod.mk.injEq] at H
          obtain ⟨rfl, rfl, rfl, rfl, rfl⟩ := H
          try go_wp2
          have n0_ := Aside0.mk (blk_drew BK55001.out)
          have n1_ := Aside0.mk (below_drew1 HB.out)
          clear BK55001
          clear HB
          have BK55001 := n0_
          have HB := n1_
          clear n0_ n1_
          have p55003 : 0 ≤ (x4_1 : Int) := of_decide_eq_true (by first | (with_reducible assumption) | assumption)
          have q55003 : x4_1 < (l0.length : Int) := of_decide_eq_true (by first | (with_reducible assumption) | assumption)
          obtain ⟨ad55003, A55003_3, c55003_3, e55003, hx55003_0, hx55003_1, hx55003_2, hx55003_3, hl55003_3, hi55003_3⟩ := at_T27 HR0.out x4_1 p55003 q55003
          have hw55003_3 := hx55003_3
          have hw55003_2 := hx55003_2
          have hw55003_1 := hx55003_1
          have hw55003_0 := hx55003_0
          cases e55003
          replace hx55003_0 := (HB.out.cell (World.block_lt_of_cell? w _ hx55003_0)).trans hx55003_0
          replace hx55003_1 := (HB.out.cell (World.block_lt_of_cell? w _ hx55003_1)).trans hx55003_1
          replace hx55003_2 := (HB.out.cell (World.block_lt_of_cell? w _ hx55003_2)).trans hx55003_2
          replace hx55003_3 := (HB.out.cell (World.block_lt_of_cell? w _ hx55003_3)).trans hx55003_3
          have HR55003_3 := Aside0.mk hi55003_3
          have HC55003_3 := Aside0.mk hl55003_3
          clear hi55003_3 hl55003_3
          replace p55003 := eq_true p55003
          replace q55003 := eq_true q55003
          have p55005 : 0 ≤ (x4_1 : Int) := of_decide_eq_true (by first | (with_reducible assumption) | assumption)
          have q55005 : x4_1 < (l0.length : Int) := of_decide_eq_true (by first | (with_reducible assumption) | assumption)
          obtain ⟨ad55005, A55005_3, c55005_3, e55005, hx55005_0, hx55005_1, hx55005_2, hx55005_3, hl55005_3, hi55005_3⟩ := at_T27 HR0.out x4_1 p55005 q55005
          have hw55005_3 := hx55005_3
          have hw55005_2 := hx55005_2
          have hw55005_1 := hx55005_1
          have hw55005_0 := hx55005_0
          obtain rfl : ad55003 = ad55005 := (by injection e55005)
          replace hx55005_0 := (HB.out.cell (World.block_lt_of_cell? w _ hx55005_0)).trans hx55005_0
          replace hx55005_1 := (HB.out.cell (World.block_lt_of_cell? w _ hx55005_1)).trans hx55005_1
          replace hx55005_2 := (HB.out.cell (World.block_lt_of_cell? w _ hx55005_2)).trans hx55005_2
          replace hx55005_3 := (HB.out.cell (World.block_lt_of_cell? w _ hx55005_3)).trans hx55005_3
          have HR55005_3 := Aside0.mk hi55005_3
          have HC55005_3 := Aside0.mk hl55005_3
          clear hi55005_3 hl55005_3
          replace p55005 := eq_true p55005
          replace q55005 := eq_true q55005
          have p55006 : 0 ≤ (x4_1 : Int) := of_decide_eq_true (by first | (with_reducible assumption) | assumption)
          have q55006 : x4_1 < (l0.length : Int) := of_decide_eq_true (by first | (with_reducible assumption) | assumption)
          obtain ⟨ad55006, A55006_3, c55006_3, e55006, hx55006_0, hx55006_1, hx55006_2, hx55006_3, hl55006_3, hi55006_3⟩ := at_T27 HR0.out x4_1 p55006 q55006
          have hw55006_3 := hx55006_3
          have hw55006_2 := hx55006_2
          have hw55006_1 := hx55006_1
          have hw55006_0 := hx55006_0
          obtain rfl : ad55003 = ad55006 := (by injection e55006)
          replace hx55006_0 := (HB.out.cell (World.block_lt_of_cell? w _ hx55006_0)).trans hx55006_0
          replace hx55006_1 := (HB.out.cell (World.block_lt_of_cell? w _ hx55006_1)).trans hx55006_1
          replace hx55006_2 := (HB.out.cell (World.block_lt_of_cell? w _ hx55006_2)).trans hx55006_2
          replace hx55006_3 := (HB.out.cell (World.block_lt_of_cell? w _ hx55006_3)).trans hx55006_3
          have HR55006_3 := Aside0.mk hi55006_3
          have HC55006_3 := Aside0.mk hl55006_3
          clear hi55006_3 hl55006_3
          replace p55006 := eq_true p55006
          replace q55006 := eq_true q55006
          have ea_ := Option.some.inj (hx55005_3.symm.trans hx55006_3)
          injection ea_ with ea_ en_ ec_
          subst ea_
          subst ec_
          clear en_
          have p55007 : 0 ≤ (0 : Int) := (by omega)
          have q55007 : 0 < (l0.length : Int) := of_decide_eq_true (by first | (with_reducible assumption) | assumption)
          obtain ⟨ad55007, A55007_3, c55007_3, e55007, hx55007_0, hx55007_1, hx55007_2, hx55007_3, hl55007_3, hi55007_3⟩ := at_T27 HR0.out 0 p55007 q55007
          have hw55007_3 := hx55007_3
          (try rw [show ((0 : Int)).toNat = 0 from rfl] at hw55007_3)
          (try rw [show 0 * 4 = 0 from rfl] at hw55007_3)
          (try rw [Addr.add_zero'] at hw55007_3)
          have hw55007_2 := hx55007_2
          (try rw [show ((0 : Int)).toNat = 0 from rfl] at hw55007_2)
          (try rw [show 0 * 4 = 0 from rfl] at hw55007_2)
          (try rw [Addr.add_zero'] at hw55007_2)
          have hw55007_1 := hx55007_1
          (try rw [show ((0 : Int)).toNat = 0 from rfl] at hw55007_1)
          (try rw [show 0 * 4 = 0 from rfl] at hw55007_1)
          (try rw [Addr.add_zero'] at hw55007_1)
          have hw55007_0 := hx55007_0
          (try rw [show ((0 : Int)).toNat = 0 from rfl] at hw55007_0)
          (try rw [show 0 * 4 = 0 from rfl] at hw55007_0)
          (try rw [Addr.add_zero'] at hw55007_0)
          obtain rfl : ad55003 = ad55007 := (by injection e55007)
          have qi55007 : (0 < l0.length) = True := eq_true (by omega)
          (try rw [show ((0 : Int)).toNat = 0 from rfl] at hx55007_0)
          (try rw [show 0 * 4 = 0 from rfl] at hx55007_0)
          (try rw [Addr.add_zero'] at hx55007_0)
          (try rw [show ((0 : Int)).toNat = 0 from rfl] at hx55007_1)
          (try rw [show 0 * 4 = 0 from rfl] at hx55007_1)
          (try rw [Addr.add_zero'] at hx55007_1)
          (try rw [show ((0 : Int)).toNat = 0 from rfl] at hx55007_2)
          (try rw [show 0 * 4 = 0 from rfl] at hx55007_2)
          (try rw [Addr.add_zero'] at hx55007_2)
          (try rw [show ((0 : Int)).toNat = 0 from rfl] at hx55007_3)
          (try rw [show 0 * 4 = 0 from rfl] at hx55007_3)
          (try rw [Addr.add_zero'] at hx55007_3)
          replace hx55007_0 := (HB.out.cell (World.block_lt_of_cell? w _ hx55007_0)).trans hx55007_0
          replace hx55007_1 := (HB.out.cell (World.block_lt_of_cell? w _ hx55007_1)).trans hx55007_1
          replace hx55007_2 := (HB.out.cell (World.block_lt_of_cell? w _ hx55007_2)).trans hx55007_2
          replace hx55007_3 := (HB.out.cell (World.block_lt_of_cell? w _ hx55007_3)).trans hx55007_3
          have HR55007_3 := Aside0.mk hi55007_3
          have HC55007_3 := Aside0.mk hl55007_3
          clear hi55007_3 hl55007_3
          replace p55007 := eq_true p55007
          replace q55007 := eq_true q55007
          refine start_ (n := 38) (S := fun w' => w'.cell? (ad55003.add ((x4_1).toNat * 4)) = some (.int .i64 ((rd_T27 l0 x4_1).f0)) ∧ w'.cell? ⟨(ad55003.add ((x4_1).toNat * 4)).block, (ad55003.add ((x4_1).toNat * 4)).off + 1, none⟩ = some (.int .i64 ((rd_T27 l0 x4_1).f1)) ∧ w'.cell? ⟨(ad55003.add ((x4_1).toNat * 4)).block, (ad55003.add ((x4_1).toNat * 4)).off + 2, none⟩ = some (.int .i64 ((rd_T27 l0 x4_1).f2)) ∧ w'.cell? ⟨(ad55003.add ((x4_1).toNat * 4)).block, (ad55003.add ((x4_1).toNat * 4)).off + 3, none⟩ = some (.slice A55003_3 ((rd_T27 l0 x4_1).f3).length c55003_3) ∧ w'.cell? (ad55003.add ((x4_1).toNat * 4)) = some (.int .i64 ((rd_T27 l0 x4_1).f0)) ∧ w'.cell? ⟨(ad55003.add ((x4_1).toNat * 4)).block, (ad55003.add ((x4_1).toNat * 4)).off + 1, none⟩ = some (.int .i64 ((rd_T27 l0 x4_1).f1)) ∧ w'.cell? ⟨(ad55003.add ((x4_1).toNat * 4)).block, (ad55003.add ((x4_1).toNat * 4)).off + 2, none⟩ = some (.int .i64 ((rd_T27 l0 x4_1).f2)) ∧ w'.cell? ⟨(ad55003.add ((x4_1).toNat * 4)).block, (ad55003.add ((x4_1).toNat * 4)).off + 3, none⟩ = some (.slice A55005_3 ((rd_T27 l0 x4_1).f3).length c55005_3) ∧ w'.cell? (ad55003.add ((x4_1).toNat * 4)) = some (.int .i64 ((rd_T27 l0 x4_1).f0)) ∧ w'.cell? ⟨(ad55003.add ((x4_1).toNat * 4)).block, (ad55003.add ((x4_1).toNat * 4)).off + 1, none⟩ = some (.int .i64 ((rd_T27 l0 x4_1).f1)) ∧ w'.cell? ⟨(ad55003.add ((x4_1).toNat * 4)).block, (ad55003.add ((x4_1).toNat * 4)).off + 2, none⟩ = some (.int .i64 ((rd_T27 l0 x4_1).f2)) ∧ w'.cell? ⟨(ad55003.add ((x4_1).toNat * 4)).block, (ad55003.add ((x4_1).toNat * 4)).off + 3, none⟩ = some (.slice A55005_3 ((rd_T27 l0 x4_1).f3).length c55005_3) ∧ w'.cell? ad55003 = some (.int .i64 ((rd_T27 l0 0).f0)) ∧ w'.cell? ⟨ad55003.block, ad55003.off + 1, none⟩ = some (.int .i64 ((rd_T27 l0 0).f1)) ∧ w'.cell? ⟨ad55003.block, ad55003.off + 2, none⟩ = some (.int .i64 ((rd_T27 l0 0).f2)) ∧ w'.cell? ⟨ad55003.block, ad55003.off + 3, none⟩ = some (.slice A55007_3 ((rd_T27 l0 0).f3).length c55007_3)) (ds := []) #[false, false, false, false, false, false, false, false, false, false, false, false, false, false, false, false, false, false, false, false, false, false, false, false, false, false, false, false, false, false, false, false, false, false, false, false, false, false] (by kernel_rfl) rfl rfl ⟨((HB.out.cell (World.block_lt_of_cell? w _ hw55003_0)).trans hw55003_0), ((HB.out.cell (World.block_lt_of_cell? w _ hw55003_1)).trans hw55003_1), ((HB.out.cell (World.block_lt_of_cell? w _ hw55003_2)).trans hw55003_2), ((HB.out.cell (World.block_lt_of_cell? w _ hw55003_3)).trans hw55003_3), ((HB.out.cell (World.block_lt_of_cell? w _ hw55005_0)).trans hw55005_0), ((HB.out.cell (World.block_lt_of_cell? w _ hw55005_1)).trans hw55005_1), ((HB.out.cell (World.block_lt_of_cell? w _ hw55005_2)).trans hw55005_2), ((HB.out.cell (World.block_lt_of_cell? w _ hw55005_3)).trans hw55005_3), ((HB.out.cell (World.block_lt_of_cell? w _ hw55006_0)).trans hw55006_0), ((HB.out.cell (World.block_lt_of_cell? w _ hw55006_1)).trans hw55006_1), ((HB.out.cell (World.block_lt_of_cell? w _ hw55006_2)).trans hw55006_2), ((HB.out.cell (World.block_lt_of_cell? w _ hw55006_3)).trans hw55006_3), ((HB.out.cell (World.block_lt_of_cell? w _ hw55007_0)).trans hw55007_0), ((HB.out.cell (World.block_lt_of_cell? w _ hw55007_1)).trans hw55007_1), ((HB.out.cell (World.block_lt_of_cell? w _ hw55007_2)).trans hw55007_2), ((HB.out.cell (World.block_lt_of_cell? w _ hw55007_3)).trans hw55007_3)⟩ (fun hHeld => ?_); refine with_tabW spec_MergePlanes.tab6 spec_MergePlanes.bits6 (fun HT_ HW_ => ?_)
          generalize wr.drew = w18 at BK55001 HB HR55003_3 HR55005_3 HR55006_3 HR55007_3 hx55003_0 hx55003_1 hx55003_2 hx55003_3 hx55005_0 hx55005_1 hx55005_2 hx55005_3 hx55006_0 hx55006_1 hx55006_2 hx55006_3 hx55007_0 hx55007_1 hx55007_2 hx55007_3 hHeld ⊢
          refine pu 0 18 ?_ ?_ rfl rfl (any_of HT_.out (by kernel_rfl)) (Or.inl ⟨by rfl, ?_⟩) ?_ ?_
          rotate_left 2
          ·intro w'
           go_simp
           with_reducible rfl
          ·simp only [seval]
           rfl
          refine pu 1 19 ?_ ?_ rfl rfl (any_of HT_.out (by kernel_rfl)) (Or.inl ⟨by rfl, ?_⟩) ?_ ?_
          rotate_left 2
          ·intro w'
           go_simp
           with_reducible rfl
          ·simp only [seval]
           rfl
          refine pu 2 20 ?_ ?_ rfl rfl (any_of HT_.out (by kernel_rfl)) (Or.inl ⟨by rfl, ?_⟩) ?_ ?_
          rotate_left 2
          ·intro w'
           go_simp
           with_reducible rfl
          ·simp only [seval]
           rfl
          refine tk 3 21 ?_ ?_ rfl rfl (take_ofW HT_.out HW_.out (by kernel_rfl)) (Or.inl ⟨by rfl, ?_⟩) hHeld ?_ ?_
          rotate_left 2
          ·rintro w' ⟨s0, s1, s2, s3, s4, s5, s6, s7, s8, s9, s10, s11, s12, s13, s14, s15⟩
           go_simp
           with_reducible rfl
          ·simp only [seval]
           rfl
          refine one_ (i := 4) (N := some 22) #[true, true, true, true, true, false, false, false, false, false, false, false, false, false, false, false, false, false, false, false, false, false, false, false, false, false, false, false, false, false, false, false, false, false, false, false, false, false] rfl rfl (one_of HT_.out (by kernel_rfl)) (by decide) (fun K hK => ?_)
          refine goes_ Try.func89 (by kernel_rfl) rfl #[.agg #[.int .i64 ((rd_T27 l0 x4_1).f0), .int .i64 ((rd_T27 l0 x4_1).f1), .int .i64 ((rd_T27 l0 x4_1).f2), .slice A55003_3 ((rd_T27 l0 x4_1).f3).length c55003_3]] (by rfl) rfl rfl (by (try simp only [bitvec_to_nat]); first | done | rfl | (simp only [List.length_drop, List.length_take]; rfl)) ?_
          with_reducible refine (spec_validImage.calls k1 ((rd_T27 l0 x4_1).f0) ((rd_T27 l0 x4_1).f1) ((rd_T27 l0 x4_1).f2) _ _ ((rd_T27 l0 x4_1).f3) true _ ?side1 ?side2 A7.out).mono ?_
          (case side1 => repeat (first | exact (Kd.C_below HR55003_3.out HB.out) | (with_reducible refine Kd.C_alloc ?_ _) | (with_reducible refine Kd.C_drewN ?_ _) | (with_reducible refine Kd.C_drew ?_)))
          (case side2 => exact HC55003_3.out)
          rintro e w19 ⟨rfl, hb⟩
          refine ⟨_, rfl, ?_⟩
          have n0_ := Aside0.mk (blk_below (g := gb55001) (o := .cells #[.int .i64 x55002000_1, .int .i64 x55002001_1, .int .i64 x55002002_1, .slice none 0 0] 27 (0, 0)) (by (with_reducible repeat (first | refine blk_drewN ?_ _ | refine blk_drew ?_ | refine blk_alloc ?_ _)); exact BK55001.out) hb)
          have n1_ := Aside0.mk (below_step (by repeat (first | (with_reducible first | exact HB.out | apply below_alloc | apply pw_below_drewN | apply below_drew1 | refine below_set ?_ GE55001.out) | exact HB.out)) hb)
          clear BK55001
          clear HB
          have BK55001 := n0_
          have HB := n1_
          clear n0_ n1_
          (try clear hb)
          (try clear hb2)
          (try clear hk)
          (try clear hi)
          refine hK.out _ _ ⟨((HB.out.cell (World.block_lt_of_cell? w _ hw55003_0)).trans hw55003_0), ((HB.out.cell (World.block_lt_of_cell? w _ hw55003_1)).trans hw55003_1), ((HB.out.cell (World.block_lt_of_cell? w _ hw55003_2)).trans hw55003_2), ((HB.out.cell (World.block_lt_of_cell? w _ hw55003_3)).trans hw55003_3), ((HB.out.cell (World.block_lt_of_cell? w _ hw55005_0)).trans hw55005_0), ((HB.out.cell (World.block_lt_of_cell? w _ hw55005_1)).trans hw55005_1), ((HB.out.cell (World.block_lt_of_cell? w _ hw55005_2)).trans hw55005_2), ((HB.out.cell (World.block_lt_of_cell? w _ hw55005_3)).trans hw55005_3), ((HB.out.cell (World.block_lt_of_cell? w _ hw55006_0)).trans hw55006_0), ((HB.out.cell (World.block_lt_of_cell? w _ hw55006_1)).trans hw55006_1), ((HB.out.cell (World.block_lt_of_cell? w _ hw55006_2)).trans hw55006_2), ((HB.out.cell (World.block_lt_of_cell? w _ hw55006_3)).trans hw55006_3), ((HB.out.cell (World.block_lt_of_cell? w _ hw55007_0)).trans hw55007_0), ((HB.out.cell (World.block_lt_of_cell? w _ hw55007_1)).trans hw55007_1), ((HB.out.cell (World.block_lt_of_cell? w _ hw55007_2)).trans hw55007_2), ((HB.out.cell (World.block_lt_of_cell? w _ hw55007_3)).trans hw55007_3)⟩ (fun hHeld => ?_)
          clear hK K
          refine norm_ (a' := ?_) ?_ ?_
          rotate_left
          ·show Act.put _ (some 22) _ = _
           simp only [seval]
           rfl
          refine pu 5 23 ?_ ?_ rfl rfl (any_of HT_.out (by kernel_rfl)) (Or.inl ⟨by rfl, ?_⟩) ?_ ?_
          rotate_left 2
          ·intro w'
           go_simp
           with_reducible rfl
          ·simp only [seval]
           rfl
          refine pu 6 24 ?_ ?_ rfl rfl (any_of HT_.out (by kernel_rfl)) (Or.inl ⟨by rfl, ?_⟩) ?_ ?_
          rotate_left 2
          ·intro w'
           go_simp
           with_reducible rfl
          ·simp only [seval]
           rfl
          refine pu 7 25 ?_ ?_ rfl rfl (any_of HT_.out (by kernel_rfl)) (Or.inl ⟨by rfl, ?_⟩) ?_ ?_
          rotate_left 2
          ·intro w'
           go_simp
           with_reducible rfl
          ·simp only [seval]
           rfl
          refine pu 8 26 ?_ ?_ rfl rfl (any_of HT_.out (by kernel_rfl)) (Or.inl ⟨by rfl, ?_⟩) ?_ ?_
          rotate_left 2
          ·intro w'
           go_simp
           with_reducible rfl
          ·simp only [seval]
           rfl
          refine pu 9 27 ?_ ?_ rfl rfl (any_of HT_.out (by kernel_rfl)) (Or.inl ⟨by rfl, ?_⟩) ?_ ?_
          rotate_left 2
          ·intro w'
           go_simp
           with_reducible rfl
          ·simp only [seval]
           rfl
          refine pu 10 28 ?_ ?_ rfl rfl (any_of HT_.out (by kernel_rfl)) (Or.inl ⟨by rfl, ?_⟩) ?_ ?_
          rotate_left 2
          ·intro w'
           go_simp
           with_reducible rfl
          ·simp only [seval]
           rfl
          refine tk 11 29 ?_ ?_ rfl rfl (take_ofW HT_.out HW_.out (by kernel_rfl)) (Or.inl ⟨by rfl, ?_⟩) hHeld ?_ ?_
          rotate_left 2
          ·rintro w' ⟨s0, s1, s2, s3, s4, s5, s6, s7, s8, s9, s10, s11, s12, s13, s14, s15⟩
           go_simp
           with_reducible rfl
          ·simp only [seval]
           rfl
          refine pu 12 30 ?_ ?_ rfl rfl (any_of HT_.out (by kernel_rfl)) (Or.inl ⟨by rfl, ?_⟩) ?_ ?_
          rotate_left 2
          ·intro w'
           go_simp
           with_reducible rfl
          ·simp only [seval]
           rfl
          refine pu 13 31 ?_ ?_ rfl rfl (any_of HT_.out (by kernel_rfl)) (Or.inl ⟨by rfl, ?_⟩) ?_ ?_
          rotate_left 2
          ·intro w'
           go_simp
           with_reducible rfl
          ·simp only [seval]
           rfl
          refine pu 14 32 ?_ ?_ rfl rfl (any_of HT_.out (by kernel_rfl)) (Or.inl ⟨by rfl, ?_⟩) ?_ ?_
          rotate_left 2
          ·intro w'
           go_simp
           with_reducible rfl
          ·simp only [seval]
           rfl
          refine pu 15 33 ?_ ?_ rfl rfl (any_of HT_.out (by kernel_rfl)) (Or.inl ⟨by rfl, ?_⟩) ?_ ?_
          rotate_left 2
          ·intro w'
           go_simp
           with_reducible rfl
          ·simp only [seval]
           rfl
          refine pu 16 34 ?_ ?_ rfl rfl (any_of HT_.out (by kernel_rfl)) (Or.inl ⟨by rfl, ?_⟩) ?_ ?_
          rotate_left 2
          ·intro w'
           go_simp
           with_reducible rfl
          ·simp only [seval]
           rfl
          refine pu 17 35 ?_ ?_ rfl rfl (any_of HT_.out (by kernel_rfl)) (Or.inl ⟨by rfl, ?_⟩) ?_ ?_
          rotate_left 2
          ·intro w'
           go_simp
           with_reducible rfl
          ·simp only [seval]
           rfl
          refine pu 18 36 ?_ ?_ rfl rfl (any_of HT_.out (by kernel_rfl)) (Or.inl ⟨by rfl, ?_⟩) ?_ ?_
          rotate_left 2
          ·intro w'
           go_simp
           with_reducible rfl
          ·simp only [seval]
           rfl
          refine pu 20 38 ?_ ?_ rfl rfl (any_of HT_.out (by kernel_rfl)) (Or.inl ⟨by rfl, ?_⟩) ?_ ?_
          rotate_left 2
          ·intro w'
           go_simp
           with_reducible rfl
          ·simp only [seval]
           rfl
          refine pu 21 39 ?_ ?_ rfl rfl (any_of HT_.out (by kernel_rfl)) (Or.inl ⟨by rfl, ?_⟩) ?_ ?_
          rotate_left 2
          ·intro w'
           go_simp
           with_reducible rfl
          ·simp only [seval]
           rfl
          refine pu 22 40 ?_ ?_ rfl rfl (any_of HT_.out (by kernel_rfl)) (Or.inl ⟨by rfl, ?_⟩) ?_ ?_
          rotate_left 2
          ·intro w'
           go_simp
           with_reducible rfl
          ·simp only [seval]
           rfl
          refine tk 19 37 ?_ ?_ rfl rfl (take_ofW HT_.out HW_.out (by kernel_rfl)) (Or.inl ⟨by rfl, ?_⟩) hHeld ?_ ?_
          rotate_left 2
          ·rintro w' ⟨s0, s1, s2, s3, s4, s5, s6, s7, s8, s9, s10, s11, s12, s13, s14, s15⟩
           go_simp
           with_reducible rfl
          ·simp only [seval]
           rfl
          refine tk 23 41 ?_ ?_ rfl rfl (take_ofW HT_.out HW_.out (by kernel_rfl)) (Or.inl ⟨by rfl, ?_⟩) hHeld ?_ ?_
          rotate_left 2
          ·rintro w' ⟨s0, s1, s2, s3, s4, s5, s6, s7, s8, s9, s10, s11, s12, s13, s14, s15⟩
           go_simp
           with_reducible rfl
          ·simp only [seval]
           rfl
          refine pu 24 42 ?_ ?_ rfl rfl (any_of HT_.out (by kernel_rfl)) (Or.inl ⟨by rfl, ?_⟩) ?_ ?_
          rotate_left 2
          ·intro w'
           go_simp
           with_reducible rfl
          ·simp only [seval]
           rfl
          refine pu 25 43 ?_ ?_ rfl rfl (any_of HT_.out (by kernel_rfl)) (Or.inl ⟨by rfl, ?_⟩) ?_ ?_
          rotate_left 2
          ·intro w'
           go_simp
           with_reducible rfl
          ·simp only [seval]
           rfl
          refine pu 26 44 ?_ ?_ rfl rfl (any_of HT_.out (by kernel_rfl)) (Or.inl ⟨by rfl, ?_⟩) ?_ ?_
          rotate_left 2
          ·intro w'
           go_simp
           with_reducible rfl
          ·simp only [seval]
           rfl
          refine pure_ (i := 27) (N := some 45) (v := undef) (a' := ?_) #[true, true, true, true, true, true, true, true, true, true, true, true, true, true, true, true, true, true, true, true, true, true, true, true, true, true, true, true, false, false, false, false, false, false, false, false, false, false] rfl rfl (any_of HT_.out (by kernel_rfl)) (fun _ _ _ h => h) (Or.inr ⟨by rfl, rfl⟩) ?_ ?_
          rotate_left
          ·simp only [seval]
           rfl
          refine pure_ (i := 28) (N := some 46) (v := undef) (a' := ?_) #[true, true, true, true, true, true, true, true, true, true, true, true, true, true, true, true, true, true, true, true, true, true, true, true, true, true, true, true, true, false, false, false, false, false, false, false, false, false] rfl rfl (any_of HT_.out (by kernel_rfl)) (fun _ _ _ h => h) (Or.inr ⟨by rfl, rfl⟩) ?_ ?_
          rotate_left
          ·simp only [seval]
           rfl
          refine pure_ (i := 29) (N := some 47) (v := undef) (a' := ?_) #[true, true, true, true, true, true, true, true, true, true, true, true, true, true, true, true, true, true, true, true, true, true, true, true, true, true, true, true, true, true, false, false, false, false, false, false, false, false] rfl rfl (any_of HT_.out (by kernel_rfl)) (fun _ _ _ h => h) (Or.inr ⟨by rfl, rfl⟩) ?_ ?_
          rotate_left
          ·simp only [seval]
           rfl
          refine pure_ (i := 30) (N := some 48) (v := undef) (a' := ?_) #[true, true, true, true, true, true, true, true, true, true, true, true, true, true, true, true, true, true, true, true, true, true, true, true, true, true, true, true, true, true, true, false, false, false, false, false, false, false] rfl rfl (any_of HT_.out (by kernel_rfl)) (fun _ _ _ h => h) (Or.inr ⟨by rfl, rfl⟩) ?_ ?_
          rotate_left
          ·simp only [seval]
           rfl
          refine pure_ (i := 31) (N := some 49) (v := undef) (a' := ?_) #[true, true, true, true, true, true, true, true, true, true, true, true, true, true, true, true, true, true, true, true, true, true, true, true, true, true, true, true, true, true, true, true, false, false, false, false, false, false] rfl rfl (any_of HT_.out (by kernel_rfl)) (fun _ _ _ h => h) (Or.inr ⟨by rfl, rfl⟩) ?_ ?_
          rotate_left
          ·simp only [seval]
           rfl
          refine pure_ (i := 32) (N := some 50) (v := undef) (a' := ?_) #[true, true, true, true, true, true, true, true, true, true, true, true, true, true, true, true, true, true, true, true, true, true, true, true, true, true, true, true, true, true, true, true, true, false, false, false, false, false] rfl rfl (any_of HT_.out (by kernel_rfl)) (fun _ _ _ h => h) (Or.inr ⟨by rfl, rfl⟩) ?_ ?_
          rotate_left
          ·simp only [seval]
           rfl
          refine pure_ (i := 33) (N := some 51) (v := undef) (a' := ?_) #[true, true, true, true, true, true, true, true, true, true, true, true, true, true, true, true, true, true, true, true, true, true, true, true, true, true, true, true, true, true, true, true, true, true, false, false, false, false] rfl rfl (any_of HT_.out (by kernel_rfl)) (fun _ _ _ h => h) (Or.inr ⟨by rfl, rfl⟩) ?_ ?_
          rotate_left
          ·simp only [seval]
           rfl
          refine pure_ (i := 34) (N := some 52) (v := undef) (a' := ?_) #[true, true, true, true, true, true, true, true, true, true, true, true, true, true, true, true, true, true, true, true, true, true, true, true, true, true, true, true, true, true, true, true, true, true, true, false, false, false] rfl rfl (any_of HT_.out (by kernel_rfl)) (fun _ _ _ h => h) (Or.inr ⟨by rfl, rfl⟩) ?_ ?_
          rotate_left
          ·simp only [seval]
           rfl
          refine pure_ (i := 35) (N := some 53) (v := undef) (a' := ?_) #[true, true, true, true, true, true, true, true, true, true, true, true, true, true, true, true, true, true, true, true, true, true, true, true, true, true, true, true, true, true, true, true, true, true, true, true, false, false] rfl rfl (any_of HT_.out (by kernel_rfl)) (fun _ _ _ h => h) (Or.inr ⟨by rfl, rfl⟩) ?_ ?_
          rotate_left
          ·simp only [seval]
           rfl
          refine pure_ (i := 36) (N := some 54) (v := undef) (a' := ?_) #[true, true, true, true, true, true, true, true, true, true, true, true, true, true, true, true, true, true, true, true, true, true, true, true, true, true, true, true, true, true, true, true, true, true, true, true, true, false] rfl rfl (any_of HT_.out (by kernel_rfl)) (fun _ _ _ h => h) (Or.inr ⟨by rfl, rfl⟩) ?_ ?_
          rotate_left
          ·simp only [seval]
           rfl
          refine pu 37 55 ?_ ?_ rfl rfl (any_of HT_.out (by kernel_rfl)) (Or.inl ⟨by rfl, ?_⟩) ?_ ?_
          rotate_left 2
          ·intro w'
           go_simp
           with_reducible rfl
          ·simp only [seval]
           rfl
          refine done_ (done_of HT_.out (by kernel_rfl)) ?_
          have hcz20_0 : w19.cell? ⟨gb55001, 0, none⟩ = some (.int .i64 x55002000_1) := (blk_cell BK55001.out 0).trans rfl
          have hcz20_1 : w19.cell? ⟨gb55001, 1, none⟩ = some (.int .i64 x55002001_1) := (blk_cell BK55001.out 1).trans rfl
          have hcz20_2 : w19.cell? ⟨gb55001, 2, none⟩ = some (.int .i64 x55002002_1) := (blk_cell BK55001.out 2).trans rfl
          have hcz20_3 : w19.cell? ⟨gb55001, 3, none⟩ = some (.slice none 0 0) := (blk_cell BK55001.out 3).trans rfl
          have hfz20_0 := blk_frozen BK55001.out 0
          have hfz20_1 := blk_frozen BK55001.out 1
          have hfz20_2 := blk_frozen BK55001.out 2
          have hfz20_3 := blk_frozen BK55001.out 3
          try go_wp2
          refine bodyPost_ret (results_ct rfl _ _ gb55001 27 #[.int .i64 0, .int .i64 0, .int .i64 0, .slice none 0 0] (0, 0) _ rfl (by (with_reducible repeat (first | refine blk_drewN ?_ _ | refine blk_drew ?_ | refine blk_alloc ?_ _)); refine blk_put (cs := #[.int .i64 0, .int .i64 0, .int .i64 0, .slice none 0 0]) ?_ 3 _ rfl; (with_reducible repeat (first | refine blk_drewN ?_ _ | refine blk_drew ?_ | refine blk_alloc ?_ _)); refine blk_put (cs := #[.int .i64 0, .int .i64 0, .int .i64 x55002002_1, .slice none 0 0]) ?_ 2 _ rfl; (with_reducible repeat (first | refine blk_drewN ?_ _ | refine blk_drew ?_ | refine blk_alloc ?_ _)); refine blk_put (cs := #[.int .i64 0, .int .i64 x55002001_1, .int .i64 x55002002_1, .slice none 0 0]) ?_ 1 _ rfl; (with_reducible repeat (first | refine blk_drewN ?_ _ | refine blk_drew ?_ | refine blk_alloc ?_ _)); refine blk_put (cs := #[.int .i64 x55002000_1, .int .i64 x55002001_1, .int .i64 x55002002_1, .slice none 0 0]) ?_ 0 _ rfl; (with_reducible repeat (first | refine blk_drewN ?_ _ | refine blk_drew ?_ | refine blk_alloc ?_ _)); exact BK55001.out) Try.underlying27 rfl (by kernel_rfl)) rfl ?_
          exact ⟨_, by first | rfl | (simp [errW_none, errW_some] <;> rfl) | (simp [*, errW_none, errW_some] <;> rfl), by first | exact Kd.R_nil _ _ _ _ _ | exact Kd.N_nil _ _ _ _ _ | exact Kd.V_nil _ _ _ _ _ | exact Kd.Q_nil _ _ _ _ _ | exact Kd.S_nil _ _ _ _ _, by repeat (first | (with_reducible first | exact HB.out | apply below_alloc | apply pw_below_drewN | apply below_drew1 | refine below_set ?_ GE55001.out) | exact HB.out)⟩
        ·rw [if_neg c10] at H
         exact absurd H (by simp)
       ·rw [if_neg c9] at H
        have c9b0 : (((rd_T27 l0 x4_1).f2) == 1) = false := beq_eq_false_iff_ne.mpr c9
        have c9b1 : (((rd_T27 l0 x4_1).f2) != 1) = true := bne_iff_ne.mpr c9
        simp only [Option.some.injEq, Prod.mk.injEq] at H
        obtain ⟨rfl, rfl, rfl, rfl, rfl⟩ := H
        try go_wp2
        have n0_ := Aside0.mk (blk_drew BK55001.out)
        have n1_ := Aside0.mk (below_drew1 HB.out)
        clear BK55001
        clear HB
        have BK55001 := n0_
        have HB := n1_
        clear n0_ n1_
        have p55003 : 0 ≤ (x4_1 : Int) := of_decide_eq_true (by first | (with_reducible assumption) | assumption)
        have q55003 : x4_1 < (l0.length : Int) := of_decide_eq_true (by first | (with_reducible assumption) | assumption)
        obtain ⟨ad55003, A55003_3, c55003_3, e55003, hx55003_0, hx55003_1, hx55003_2, hx55003_3, hl55003_3, hi55003_3⟩ := at_T27 HR0.out x4_1 p55003 q55003
        have hw55003_3 := hx55003_3
        have hw55003_2 := hx55003_2
        have hw55003_1 := hx55003_1
        have hw55003_0 := hx55003_0
        cases e55003
        replace hx55003_0 := (HB.out.cell (World.block_lt_of_cell? w _ hx55003_0)).trans hx55003_0
        replace hx55003_1 := (HB.out.cell (World.block_lt_of_cell? w _ hx55003_1)).trans hx55003_1
        replace hx55003_2 := (HB.out.cell (World.block_lt_of_cell? w _ hx55003_2)).trans hx55003_2
        replace hx55003_3 := (HB.out.cell (World.block_lt_of_cell? w _ hx55003_3)).trans hx55003_3
        have HR55003_3 := Aside0.mk hi55003_3
        have HC55003_3 := Aside0.mk hl55003_3
        clear hi55003_3 hl55003_3
        replace p55003 := eq_true p55003
        replace q55003 := eq_true q55003
        have p55005 : 0 ≤ (x4_1 : Int) := of_decide_eq_true (by first | (with_reducible assumption) | assumption)
        have q55005 : x4_1 < (l0.length : Int) := of_decide_eq_true (by first | (with_reducible assumption) | assumption)
        obtain ⟨ad55005, A55005_3, c55005_3, e55005, hx55005_0, hx55005_1, hx55005_2, hx55005_3, hl55005_3, hi55005_3⟩ := at_T27 HR0.out x4_1 p55005 q55005
        have hw55005_3 := hx55005_3
        have hw55005_2 := hx55005_2
        have hw55005_1 := hx55005_1
        have hw55005_0 := hx55005_0
        obtain rfl : ad55003 = ad55005 := (by injection e55005)
        replace hx55005_0 := (HB.out.cell (World.block_lt_of_cell? w _ hx55005_0)).trans hx55005_0
        replace hx55005_1 := (HB.out.cell (World.block_lt_of_cell? w _ hx55005_1)).trans hx55005_1
        replace hx55005_2 := (HB.out.cell (World.block_lt_of_cell? w _ hx55005_2)).trans hx55005_2
        replace hx55005_3 := (HB.out.cell (World.block_lt_of_cell? w _ hx55005_3)).trans hx55005_3
        have HR55005_3 := Aside0.mk hi55005_3
        have HC55005_3 := Aside0.mk hl55005_3
        clear hi55005_3 hl55005_3
        replace p55005 := eq_true p55005
        replace q55005 := eq_true q55005
        refine start_ (n := 38) (S := fun w' => w'.cell? (ad55003.add ((x4_1).toNat * 4)) = some (.int .i64 ((rd_T27 l0 x4_1).f0)) ∧ w'.cell? ⟨(ad55003.add ((x4_1).toNat * 4)).block, (ad55003.add ((x4_1).toNat * 4)).off + 1, none⟩ = some (.int .i64 ((rd_T27 l0 x4_1).f1)) ∧ w'.cell? ⟨(ad55003.add ((x4_1).toNat * 4)).block, (ad55003.add ((x4_1).toNat * 4)).off + 2, none⟩ = some (.int .i64 ((rd_T27 l0 x4_1).f2)) ∧ w'.cell? ⟨(ad55003.add ((x4_1).toNat * 4)).block, (ad55003.add ((x4_1).toNat * 4)).off + 3, none⟩ = some (.slice A55003_3 ((rd_T27 l0 x4_1).f3).length c55003_3) ∧ w'.cell? (ad55003.add ((x4_1).toNat * 4)) = some (.int .i64 ((rd_T27 l0 x4_1).f0)) ∧ w'.cell? ⟨(ad55003.add ((x4_1).toNat * 4)).block, (ad55003.add ((x4_1).toNat * 4)).off + 1, none⟩ = some (.int .i64 ((rd_T27 l0 x4_1).f1)) ∧ w'.cell? ⟨(ad55003.add ((x4_1).toNat * 4)).block, (ad55003.add ((x4_1).toNat * 4)).off + 2, none⟩ = some (.int .i64 ((rd_T27 l0 x4_1).f2)) ∧ w'.cell? ⟨(ad55003.add ((x4_1).toNat * 4)).block, (ad55003.add ((x4_1).toNat * 4)).off + 3, none⟩ = some (.slice A55005_3 ((rd_T27 l0 x4_1).f3).length c55005_3)) (ds := []) #[false, false, false, false, false, false, false, false, false, false, false, false, false, false, false, false, false, false, false, false, false, false, false, false, false, false, false, false, false, false, false, false, false, false, false, false, false, false] (by kernel_rfl) rfl rfl ⟨((HB.out.cell (World.block_lt_of_cell? w _ hw55003_0)).trans hw55003_0), ((HB.out.cell (World.block_lt_of_cell? w _ hw55003_1)).trans hw55003_1), ((HB.out.cell (World.block_lt_of_cell? w _ hw55003_2)).trans hw55003_2), ((HB.out.cell (World.block_lt_of_cell? w _ hw55003_3)).trans hw55003_3), ((HB.out.cell (World.block_lt_of_cell? w _ hw55005_0)).trans hw55005_0), ((HB.out.cell (World.block_lt_of_cell? w _ hw55005_1)).trans hw55005_1), ((HB.out.cell (World.block_lt_of_cell? w _ hw55005_2)).trans hw55005_2), ((HB.out.cell (World.block_lt_of_cell? w _ hw55005_3)).trans hw55005_3)⟩ (fun hHeld => ?_); refine with_tabW spec_MergePlanes.tab6 spec_MergePlanes.bits6 (fun HT_ HW_ => ?_)
        generalize wr.drew = w21 at BK55001 HB HR55003_3 HR55005_3 hx55003_0 hx55003_1 hx55003_2 hx55003_3 hx55005_0 hx55005_1 hx55005_2 hx55005_3 hHeld ⊢
        refine pu 0 18 ?_ ?_ rfl rfl (any_of HT_.out (by kernel_rfl)) (Or.inl ⟨by rfl, ?_⟩) ?_ ?_
        rotate_left 2
        ·intro w'
         go_simp
         with_reducible rfl
        ·simp only [seval]
         rfl
        refine pu 1 19 ?_ ?_ rfl rfl (any_of HT_.out (by kernel_rfl)) (Or.inl ⟨by rfl, ?_⟩) ?_ ?_
        rotate_left 2
        ·intro w'
         go_simp
         with_reducible rfl
        ·simp only [seval]
         rfl
        refine pu 2 20 ?_ ?_ rfl rfl (any_of HT_.out (by kernel_rfl)) (Or.inl ⟨by rfl, ?_⟩) ?_ ?_
        rotate_left 2
        ·intro w'
         go_simp
         with_reducible rfl
        ·simp only [seval]
         rfl
        refine tk 3 21 ?_ ?_ rfl rfl (take_ofW HT_.out HW_.out (by kernel_rfl)) (Or.inl ⟨by rfl, ?_⟩) hHeld ?_ ?_
        rotate_left 2
        ·rintro w' ⟨s0, s1, s2, s3, s4, s5, s6, s7⟩
         go_simp
         with_reducible rfl
        ·simp only [seval]
         rfl
        refine one_ (i := 4) (N := some 22) #[true, true, true, true, true, false, false, false, false, false, false, false, false, false, false, false, false, false, false, false, false, false, false, false, false, false, false, false, false, false, false, false, false, false, false, false, false, false] rfl rfl (one_of HT_.out (by kernel_rfl)) (by decide) (fun K hK => ?_)
        refine goes_ Try.func89 (by kernel_rfl) rfl #[.agg #[.int .i64 ((rd_T27 l0 x4_1).f0), .int .i64 ((rd_T27 l0 x4_1).f1), .int .i64 ((rd_T27 l0 x4_1).f2), .slice A55003_3 ((rd_T27 l0 x4_1).f3).length c55003_3]] (by rfl) rfl rfl (by (try simp only [bitvec_to_nat]); first | done | rfl | (simp only [List.length_drop, List.length_take]; rfl)) ?_
        with_reducible refine (spec_validImage.calls k1 ((rd_T27 l0 x4_1).f0) ((rd_T27 l0 x4_1).f1) ((rd_T27 l0 x4_1).f2) _ _ ((rd_T27 l0 x4_1).f3) true _ ?side1 ?side2 A7.out).mono ?_
        (case side1 => repeat (first | exact (Kd.C_below HR55003_3.out HB.out) | (with_reducible refine Kd.C_alloc ?_ _) | (with_reducible refine Kd.C_drewN ?_ _) | (with_reducible refine Kd.C_drew ?_)))
        (case side2 => exact HC55003_3.out)
        rintro e w22 ⟨rfl, hb⟩
        refine ⟨_, rfl, ?_⟩
        have n0_ := Aside0.mk (blk_below (g := gb55001) (o := .cells #[.int .i64 x55002000_1, .int .i64 x55002001_1, .int .i64 x55002002_1, .slice none 0 0] 27 (0, 0)) (by (with_reducible repeat (first | refine blk_drewN ?_ _ | refine blk_drew ?_ | refine blk_alloc ?_ _)); exact BK55001.out) hb)
        have n1_ := Aside0.mk (below_step (by repeat (first | (with_reducible first | exact HB.out | apply below_alloc | apply pw_below_drewN | apply below_drew1 | refine below_set ?_ GE55001.out) | exact HB.out)) hb)
        clear BK55001
        clear HB
        have BK55001 := n0_
        have HB := n1_
        clear n0_ n1_
        (try clear hb)
        (try clear hb2)
        (try clear hk)
        (try clear hi)
        refine hK.out _ _ ⟨((HB.out.cell (World.block_lt_of_cell? w _ hw55003_0)).trans hw55003_0), ((HB.out.cell (World.block_lt_of_cell? w _ hw55003_1)).trans hw55003_1), ((HB.out.cell (World.block_lt_of_cell? w _ hw55003_2)).trans hw55003_2), ((HB.out.cell (World.block_lt_of_cell? w _ hw55003_3)).trans hw55003_3), ((HB.out.cell (World.block_lt_of_cell? w _ hw55005_0)).trans hw55005_0), ((HB.out.cell (World.block_lt_of_cell? w _ hw55005_1)).trans hw55005_1), ((HB.out.cell (World.block_lt_of_cell? w _ hw55005_2)).trans hw55005_2), ((HB.out.cell (World.block_lt_of_cell? w _ hw55005_3)).trans hw55005_3)⟩ (fun hHeld => ?_)
        clear hK K
        refine norm_ (a' := ?_) ?_ ?_
        rotate_left
        ·show Act.put _ (some 22) _ = _
         simp only [seval]
         rfl
        refine pu 5 23 ?_ ?_ rfl rfl (any_of HT_.out (by kernel_rfl)) (Or.inl ⟨by rfl, ?_⟩) ?_ ?_
        rotate_left 2
        ·intro w'
         go_simp
         with_reducible rfl
        ·simp only [seval]
         rfl
        refine pu 6 24 ?_ ?_ rfl rfl (any_of HT_.out (by kernel_rfl)) (Or.inl ⟨by rfl, ?_⟩) ?_ ?_
        rotate_left 2
        ·intro w'
         go_simp
         with_reducible rfl
        ·simp only [seval]
         rfl
        refine pu 7 25 ?_ ?_ rfl rfl (any_of HT_.out (by kernel_rfl)) (Or.inl ⟨by rfl, ?_⟩) ?_ ?_
        rotate_left 2
        ·intro w'
         go_simp
         with_reducible rfl
        ·simp only [seval]
         rfl
        refine pu 8 26 ?_ ?_ rfl rfl (any_of HT_.out (by kernel_rfl)) (Or.inl ⟨by rfl, ?_⟩) ?_ ?_
        rotate_left 2
        ·intro w'
         go_simp
         with_reducible rfl
        ·simp only [seval]
         rfl
        refine pu 9 27 ?_ ?_ rfl rfl (any_of HT_.out (by kernel_rfl)) (Or.inl ⟨by rfl, ?_⟩) ?_ ?_
        rotate_left 2
        ·intro w'
         go_simp
         with_reducible rfl
        ·simp only [seval]
         rfl
        refine pu 10 28 ?_ ?_ rfl rfl (any_of HT_.out (by kernel_rfl)) (Or.inl ⟨by rfl, ?_⟩) ?_ ?_
        rotate_left 2
        ·intro w'
         go_simp
         with_reducible rfl
        ·simp only [seval]
         rfl
        refine tk 11 29 ?_ ?_ rfl rfl (take_ofW HT_.out HW_.out (by kernel_rfl)) (Or.inl ⟨by rfl, ?_⟩) hHeld ?_ ?_
        rotate_left 2
        ·rintro w' ⟨s0, s1, s2, s3, s4, s5, s6, s7⟩
         go_simp
         with_reducible rfl
        ·simp only [seval]
         rfl
        refine pu 12 30 ?_ ?_ rfl rfl (any_of HT_.out (by kernel_rfl)) (Or.inl ⟨by rfl, ?_⟩) ?_ ?_
        rotate_left 2
        ·intro w'
         go_simp
         with_reducible rfl
        ·simp only [seval]
         rfl
        refine pu 13 31 ?_ ?_ rfl rfl (any_of HT_.out (by kernel_rfl)) (Or.inl ⟨by rfl, ?_⟩) ?_ ?_
        rotate_left 2
        ·intro w'
         go_simp
         with_reducible rfl
        ·simp only [seval]
         rfl
        refine pu 14 32 ?_ ?_ rfl rfl (any_of HT_.out (by kernel_rfl)) (Or.inl ⟨by rfl, ?_⟩) ?_ ?_
        rotate_left 2
        ·intro w'
         go_simp
         with_reducible rfl
        ·simp only [seval]
         rfl
        refine pure_ (i := 15) (N := some 33) (v := undef) (a' := ?_) #[true, true, true, true, true, true, true, true, true, true, true, true, true, true, true, true, false, false, false, false, false, false, false, false, false, false, false, false, false, false, false, false, false, false, false, false, false, false] rfl rfl (any_of HT_.out (by kernel_rfl)) (fun _ _ _ h => h) (Or.inr ⟨by rfl, rfl⟩) ?_ ?_
        rotate_left
        ·simp only [seval]
         rfl
        refine pure_ (i := 16) (N := some 34) (v := undef) (a' := ?_) #[true, true, true, true, true, true, true, true, true, true, true, true, true, true, true, true, true, false, false, false, false, false, false, false, false, false, false, false, false, false, false, false, false, false, false, false, false, false] rfl rfl (any_of HT_.out (by kernel_rfl)) (fun _ _ _ h => h) (Or.inr ⟨by rfl, rfl⟩) ?_ ?_
        rotate_left
        ·simp only [seval]
         rfl
        refine pure_ (i := 17) (N := some 35) (v := undef) (a' := ?_) #[true, true, true, true, true, true, true, true, true, true, true, true, true, true, true, true, true, true, false, false, false, false, false, false, false, false, false, false, false, false, false, false, false, false, false, false, false, false] rfl rfl (any_of HT_.out (by kernel_rfl)) (fun _ _ _ h => h) (Or.inr ⟨by rfl, rfl⟩) ?_ ?_
        rotate_left
        ·simp only [seval]
         rfl
        refine pure_ (i := 18) (N := some 36) (v := undef) (a' := ?_) #[true, true, true, true, true, true, true, true, true, true, true, true, true, true, true, true, true, true, true, false, false, false, false, false, false, false, false, false, false, false, false, false, false, false, false, false, false, false] rfl rfl (any_of HT_.out (by kernel_rfl)) (fun _ _ _ h => h) (Or.inr ⟨by rfl, rfl⟩) ?_ ?_
        rotate_left
        ·simp only [seval]
         rfl
        refine pure_ (i := 19) (N := some 37) (v := undef) (a' := ?_) #[true, true, true, true, true, true, true, true, true, true, true, true, true, true, true, true, true, true, true, true, false, false, false, false, false, false, false, false, false, false, false, false, false, false, false, false, false, false] rfl rfl (any_of HT_.out (by kernel_rfl)) (fun _ _ _ h => h) (Or.inr ⟨by rfl, rfl⟩) ?_ ?_
        rotate_left
        ·simp only [seval]
         rfl
        refine pure_ (i := 20) (N := some 38) (v := undef) (a' := ?_) #[true, true, true, true, true, true, true, true, true, true, true, true, true, true, true, true, true, true, true, true, true, false, false, false, false, false, false, false, false, false, false, false, false, false, false, false, false, false] rfl rfl (any_of HT_.out (by kernel_rfl)) (fun _ _ _ h => h) (Or.inr ⟨by rfl, rfl⟩) ?_ ?_
        rotate_left
        ·simp only [seval]
         rfl
        refine pure_ (i := 21) (N := some 39) (v := undef) (a' := ?_) #[true, true, true, true, true, true, true, true, true, true, true, true, true, true, true, true, true, true, true, true, true, true, false, false, false, false, false, false, false, false, false, false, false, false, false, false, false, false] rfl rfl (any_of HT_.out (by kernel_rfl)) (fun _ _ _ h => h) (Or.inr ⟨by rfl, rfl⟩) ?_ ?_
        rotate_left
        ·simp only [seval]
         rfl
        refine pure_ (i := 22) (N := some 40) (v := undef) (a' := ?_) #[true, true, true, true, true, true, true, true, true, true, true, true, true, true, true, true, true, true, true, true, true, true, true, false, false, false, false, false, false, false, false, false, false, false, false, false, false, false] rfl rfl (any_of HT_.out (by kernel_rfl)) (fun _ _ _ h => h) (Or.inr ⟨by rfl, rfl⟩) ?_ ?_
        rotate_left
        ·simp only [seval]
         rfl
        refine pure_ (i := 23) (N := some 41) (v := undef) (a' := ?_) #[true, true, true, true, true, true, true, true, true, true, true, true, true, true, true, true, true, true, true, true, true, true, true, true, false, false, false, false, false, false, false, false, false, false, false, false, false, false] rfl rfl (any_of HT_.out (by kernel_rfl)) (fun _ _ _ h => h) (Or.inr ⟨by rfl, rfl⟩) ?_ ?_
        rotate_left
        ·simp only [seval]
         rfl
        refine pure_ (i := 24) (N := some 42) (v := undef) (a' := ?_) #[true, true, true, true, true, true, true, true, true, true, true, true, true, true, true, true, true, true, true, true, true, true, true, true, true, false, false, false, false, false, false, false, false, false, false, false, false, false] rfl rfl (any_of HT_.out (by kernel_rfl)) (fun _ _ _ h => h) (Or.inr ⟨by rfl, rfl⟩) ?_ ?_
        rotate_left
        ·simp only [seval]
         rfl
        refine pu 25 43 ?_ ?_ rfl rfl (any_of HT_.out (by kernel_rfl)) (Or.inl ⟨by rfl, ?_⟩) ?_ ?_
        rotate_left 2
        ·intro w'
         go_simp
         with_reducible rfl
        ·simp only [seval]
         rfl
        refine pu 26 44 ?_ ?_ rfl rfl (any_of HT_.out (by kernel_rfl)) (Or.inl ⟨by rfl, ?_⟩) ?_ ?_
        rotate_left 2
        ·intro w'
         go_simp
         with_reducible rfl
        ·simp only [seval]
         rfl
        refine pure_ (i := 27) (N := some 45) (v := undef) (a' := ?_) #[true, true, true, true, true, true, true, true, true, true, true, true, true, true, true, true, true, true, true, true, true, true, true, true, true, true, true, true, false, false, false, false, false, false, false, false, false, false] rfl rfl (any_of HT_.out (by kernel_rfl)) (fun _ _ _ h => h) (Or.inr ⟨by rfl, rfl⟩) ?_ ?_
        rotate_left
        ·simp only [seval]
         rfl
        refine pure_ (i := 28) (N := some 46) (v := undef) (a' := ?_) #[true, true, true, true, true, true, true, true, true, true, true, true, true, true, true, true, true, true, true, true, true, true, true, true, true, true, true, true, true, false, false, false, false, false, false, false, false, false] rfl rfl (any_of HT_.out (by kernel_rfl)) (fun _ _ _ h => h) (Or.inr ⟨by rfl, rfl⟩) ?_ ?_
        rotate_left
        ·simp only [seval]
         rfl
        refine pure_ (i := 29) (N := some 47) (v := undef) (a' := ?_) #[true, true, true, true, true, true, true, true, true, true, true, true, true, true, true, true, true, true, true, true, true, true, true, true, true, true, true, true, true, true, false, false, false, false, false, false, false, false] rfl rfl (any_of HT_.out (by kernel_rfl)) (fun _ _ _ h => h) (Or.inr ⟨by rfl, rfl⟩) ?_ ?_
        rotate_left
        ·simp only [seval]
         rfl
        refine pure_ (i := 30) (N := some 48) (v := undef) (a' := ?_) #[true, true, true, true, true, true, true, true, true, true, true, true, true, true, true, true, true, true, true, true, true, true, true, true, true, true, true, true, true, true, true, false, false, false, false, false, false, false] rfl rfl (any_of HT_.out (by kernel_rfl)) (fun _ _ _ h => h) (Or.inr ⟨by rfl, rfl⟩) ?_ ?_
        rotate_left
        ·simp only [seval]
         rfl
        refine pure_ (i := 31) (N := some 49) (v := undef) (a' := ?_) #[true, true, true, true, true, true, true, true, true, true, true, true, true, true, true, true, true, true, true, true, true, true, true, true, true, true, true, true, true, true, true, true, false, false, false, false, false, false] rfl rfl (any_of HT_.out (by kernel_rfl)) (fun _ _ _ h => h) (Or.inr ⟨by rfl, rfl⟩) ?_ ?_
        rotate_left
        ·simp only [seval]
         rfl
        refine pure_ (i := 32) (N := some 50) (v := undef) (a' := ?_) #[true, true, true, true, true, true, true, true, true, true, true, true, true, true, true, true, true, true, true, true, true, true, true, true, true, true, true, true, true, true, true, true, true, false, false, false, false, false] rfl rfl (any_of HT_.out (by kernel_rfl)) (fun _ _ _ h => h) (Or.inr ⟨by rfl, rfl⟩) ?_ ?_
        rotate_left
        ·simp only [seval]
         rfl
        refine pure_ (i := 33) (N := some 51) (v := undef) (a' := ?_) #[true, true, true, true, true, true, true, true, true, true, true, true, true, true, true, true, true, true, true, true, true, true, true, true, true, true, true, true, true, true, true, true, true, true, false, false, false, false] rfl rfl (any_of HT_.out (by kernel_rfl)) (fun _ _ _ h => h) (Or.inr ⟨by rfl, rfl⟩) ?_ ?_
        rotate_left
        ·simp only [seval]
         rfl
        refine pure_ (i := 34) (N := some 52) (v := undef) (a' := ?_) #[true, true, true, true, true, true, true, true, true, true, true, true, true, true, true, true, true, true, true, true, true, true, true, true, true, true, true, true, true, true, true, true, true, true, true, false, false, false] rfl rfl (any_of HT_.out (by kernel_rfl)) (fun _ _ _ h => h) (Or.inr ⟨by rfl, rfl⟩) ?_ ?_
        rotate_left
        ·simp only [seval]
         rfl
        refine pure_ (i := 35) (N := some 53) (v := undef) (a' := ?_) #[true, true, true, true, true, true, true, true, true, true, true, true, true, true, true, true, true, true, true, true, true, true, true, true, true, true, true, true, true, true, true, true, true, true, true, true, false, false] rfl rfl (any_of HT_.out (by kernel_rfl)) (fun _ _ _ h => h) (Or.inr ⟨by rfl, rfl⟩) ?_ ?_
        rotate_left
        ·simp only [seval]
         rfl
        refine pure_ (i := 36) (N := some 54) (v := undef) (a' := ?_) #[true, true, true, true, true, true, true, true, true, true, true, true, true, true, true, true, true, true, true, true, true, true, true, true, true, true, true, true, true, true, true, true, true, true, true, true, true, false] rfl rfl (any_of HT_.out (by kernel_rfl)) (fun _ _ _ h => h) (Or.inr ⟨by rfl, rfl⟩) ?_ ?_
        rotate_left
        ·simp only [seval]
         rfl
        refine pu 37 55 ?_ ?_ rfl rfl (any_of HT_.out (by kernel_rfl)) (Or.inl ⟨by rfl, ?_⟩) ?_ ?_
        rotate_left 2
        ·intro w'
         go_simp
         with_reducible rfl
        ·simp only [seval]
         rfl
        refine done_ (done_of HT_.out (by kernel_rfl)) ?_
        have hcz23_0 : w22.cell? ⟨gb55001, 0, none⟩ = some (.int .i64 x55002000_1) := (blk_cell BK55001.out 0).trans rfl
        have hcz23_1 : w22.cell? ⟨gb55001, 1, none⟩ = some (.int .i64 x55002001_1) := (blk_cell BK55001.out 1).trans rfl
        have hcz23_2 : w22.cell? ⟨gb55001, 2, none⟩ = some (.int .i64 x55002002_1) := (blk_cell BK55001.out 2).trans rfl
        have hcz23_3 : w22.cell? ⟨gb55001, 3, none⟩ = some (.slice none 0 0) := (blk_cell BK55001.out 3).trans rfl
        have hfz23_0 := blk_frozen BK55001.out 0
        have hfz23_1 := blk_frozen BK55001.out 1
        have hfz23_2 := blk_frozen BK55001.out 2
        have hfz23_3 := blk_frozen BK55001.out 3
        try go_wp2
        refine bodyPost_ret (results_ct rfl _ _ gb55001 27 #[.int .i64 0, .int .i64 0, .int .i64 0, .slice none 0 0] (0, 0) _ rfl (by (with_reducible repeat (first | refine blk_drewN ?_ _ | refine blk_drew ?_ | refine blk_alloc ?_ _)); refine blk_put (cs := #[.int .i64 0, .int .i64 0, .int .i64 0, .slice none 0 0]) ?_ 3 _ rfl; (with_reducible repeat (first | refine blk_drewN ?_ _ | refine blk_drew ?_ | refine blk_alloc ?_ _)); refine blk_put (cs := #[.int .i64 0, .int .i64 0, .int .i64 x55002002_1, .slice none 0 0]) ?_ 2 _ rfl; (with_reducible repeat (first | refine blk_drewN ?_ _ | refine blk_drew ?_ | refine blk_alloc ?_ _)); refine blk_put (cs := #[.int .i64 0, .int .i64 x55002001_1, .int .i64 x55002002_1, .slice none 0 0]) ?_ 1 _ rfl; (with_reducible repeat (first | refine blk_drewN ?_ _ | refine blk_drew ?_ | refine blk_alloc ?_ _)); refine blk_put (cs := #[.int .i64 x55002000_1, .int .i64 x55002001_1, .int .i64 x55002002_1, .slice none 0 0]) ?_ 0 _ rfl; (with_reducible repeat (first | refine blk_drewN ?_ _ | refine blk_drew ?_ | refine blk_alloc ?_ _)); exact BK55001.out) Try.underlying27 rfl (by kernel_rfl)) rfl ?_
        exact ⟨_, by first | rfl | (simp [errW_none, errW_some] <;> rfl) | (simp [*, errW_none, errW_some] <;> rfl), by first | exact Kd.R_nil _ _ _ _ _ | exact Kd.N_nil _ _ _ _ _ | exact Kd.V_nil _ _ _ _ _ | exact Kd.Q_nil _ _ _ _ _ | exact Kd.S_nil _ _ _ _ _, by repeat (first | (with_reducible first | exact HB.out | apply below_alloc | apply pw_below_drewN | apply below_drew1 | refine below_set ?_ GE55001.out) | exact HB.out)⟩
      ·replace c8 := Bool.eq_false_iff.mpr c8
       subst c8
       have H1 : (some (0, 0, 0, ([] : List Int), false)) = some (r1, r2, r3, r4, r5) := by rw [if_neg (show ¬ (false = true) by decide)] at H; exact H
       clear H
       have H := H1
       clear H1
       simp only [Option.some.injEq, Prod.mk.injEq] at H
       obtain ⟨rfl, rfl, rfl, rfl, rfl⟩ := H
       try go_wp2
       have n0_ := Aside0.mk (blk_drew BK55001.out)
       have n1_ := Aside0.mk (below_drew1 HB.out)
       clear BK55001
       clear HB
       have BK55001 := n0_
       have HB := n1_
       clear n0_ n1_
       have p55003 : 0 ≤ (x4_1 : Int) := of_decide_eq_true (by first | (with_reducible assumption) | assumption)
       have q55003 : x4_1 < (l0.length : Int) := of_decide_eq_true (by first | (with_reducible assumption) | assumption)
       obtain ⟨ad55003, A55003_3, c55003_3, e55003, hx55003_0, hx55003_1, hx55003_2, hx55003_3, hl55003_3, hi55003_3⟩ := at_T27 HR0.out x4_1 p55003 q55003
       have hw55003_3 := hx55003_3
       have hw55003_2 := hx55003_2
       have hw55003_1 := hx55003_1
       have hw55003_0 := hx55003_0
       cases e55003
       replace hx55003_0 := (HB.out.cell (World.block_lt_of_cell? w _ hx55003_0)).trans hx55003_0
       replace hx55003_1 := (HB.out.cell (World.block_lt_of_cell? w _ hx55003_1)).trans hx55003_1
       replace hx55003_2 := (HB.out.cell (World.block_lt_of_cell? w _ hx55003_2)).trans hx55003_2
       replace hx55003_3 := (HB.out.cell (World.block_lt_of_cell? w _ hx55003_3)).trans hx55003_3
       have HR55003_3 := Aside0.mk hi55003_3
       have HC55003_3 := Aside0.mk hl55003_3
       clear hi55003_3 hl55003_3
       replace p55003 := eq_true p55003
       replace q55003 := eq_true q55003
       refine start_ (n := 38) (S := fun w' => w'.cell? (ad55003.add ((x4_1).toNat * 4)) = some (.int .i64 ((rd_T27 l0 x4_1).f0)) ∧ w'.cell? ⟨(ad55003.add ((x4_1).toNat * 4)).block, (ad55003.add ((x4_1).toNat * 4)).off + 1, none⟩ = some (.int .i64 ((rd_T27 l0 x4_1).f1)) ∧ w'.cell? ⟨(ad55003.add ((x4_1).toNat * 4)).block, (ad55003.add ((x4_1).toNat * 4)).off + 2, none⟩ = some (.int .i64 ((rd_T27 l0 x4_1).f2)) ∧ w'.cell? ⟨(ad55003.add ((x4_1).toNat * 4)).block, (ad55003.add ((x4_1).toNat * 4)).off + 3, none⟩ = some (.slice A55003_3 ((rd_T27 l0 x4_1).f3).length c55003_3)) (ds := []) #[false, false, false, false, false, false, false, false, false, false, false, false, false, false, false, false, false, false, false, false, false, false, false, false, false, false, false, false, false, false, false, false, false, false, false, false, false, false] (by kernel_rfl) rfl rfl ⟨((HB.out.cell (World.block_lt_of_cell? w _ hw55003_0)).trans hw55003_0), ((HB.out.cell (World.block_lt_of_cell? w _ hw55003_1)).trans hw55003_1), ((HB.out.cell (World.block_lt_of_cell? w _ hw55003_2)).trans hw55003_2), ((HB.out.cell (World.block_lt_of_cell? w _ hw55003_3)).trans hw55003_3)⟩ (fun hHeld => ?_); refine with_tabW spec_MergePlanes.tab6 spec_MergePlanes.bits6 (fun HT_ HW_ => ?_)
       generalize wr.drew = w24 at BK55001 HB HR55003_3 hx55003_0 hx55003_1 hx55003_2 hx55003_3 hHeld ⊢
       refine pu 0 18 ?_ ?_ rfl rfl (any_of HT_.out (by kernel_rfl)) (Or.inl ⟨by rfl, ?_⟩) ?_ ?_
       rotate_left 2
       ·intro w'
        go_simp
        with_reducible rfl
       ·simp only [seval]
        rfl
       refine pu 1 19 ?_ ?_ rfl rfl (any_of HT_.out (by kernel_rfl)) (Or.inl ⟨by rfl, ?_⟩) ?_ ?_
       rotate_left 2
       ·intro w'
        go_simp
        with_reducible rfl
       ·simp only [seval]
        rfl
       refine pu 2 20 ?_ ?_ rfl rfl (any_of HT_.out (by kernel_rfl)) (Or.inl ⟨by rfl, ?_⟩) ?_ ?_
       rotate_left 2
       ·intro w'
        go_simp
        with_reducible rfl
       ·simp only [seval]
        rfl
       refine tk 3 21 ?_ ?_ rfl rfl (take_ofW HT_.out HW_.out (by kernel_rfl)) (Or.inl ⟨by rfl, ?_⟩) hHeld ?_ ?_
       rotate_left 2
       ·rintro w' ⟨s0, s1, s2, s3⟩
        go_simp
        with_reducible rfl
       ·simp only [seval]
        rfl
       refine one_ (i := 4) (N := some 22) #[true, true, true, true, true, false, false, false, false, false, false, false, false, false, false, false, false, false, false, false, false, false, false, false, false, false, false, false, false, false, false, false, false, false, false, false, false, false] rfl rfl (one_of HT_.out (by kernel_rfl)) (by decide) (fun K hK => ?_)
       refine goes_ Try.func89 (by kernel_rfl) rfl #[.agg #[.int .i64 ((rd_T27 l0 x4_1).f0), .int .i64 ((rd_T27 l0 x4_1).f1), .int .i64 ((rd_T27 l0 x4_1).f2), .slice A55003_3 ((rd_T27 l0 x4_1).f3).length c55003_3]] (by rfl) rfl rfl (by (try simp only [bitvec_to_nat]); first | done | rfl | (simp only [List.length_drop, List.length_take]; rfl)) ?_
       with_reducible refine (spec_validImage.calls k1 ((rd_T27 l0 x4_1).f0) ((rd_T27 l0 x4_1).f1) ((rd_T27 l0 x4_1).f2) _ _ ((rd_T27 l0 x4_1).f3) false _ ?side1 ?side2 A7.out).mono ?_
       (case side1 => repeat (first | exact (Kd.C_below HR55003_3.out HB.out) | (with_reducible refine Kd.C_alloc ?_ _) | (with_reducible refine Kd.C_drewN ?_ _) | (with_reducible refine Kd.C_drew ?_)))
       (case side2 => exact HC55003_3.out)
       rintro e w25 ⟨rfl, hb⟩
       refine ⟨_, rfl, ?_⟩
       have n0_ := Aside0.mk (blk_below (g := gb55001) (o := .cells #[.int .i64 x55002000_1, .int .i64 x55002001_1, .int .i64 x55002002_1, .slice none 0 0] 27 (0, 0)) (by (with_reducible repeat (first | refine blk_drewN ?_ _ | refine blk_drew ?_ | refine blk_alloc ?_ _)); exact BK55001.out) hb)
       have n1_ := Aside0.mk (below_step (by repeat (first | (with_reducible first | exact HB.out | apply below_alloc | apply pw_below_drewN | apply below_drew1 | refine below_set ?_ GE55001.out) | exact HB.out)) hb)
       clear BK55001
       clear HB
       have BK55001 := n0_
       have HB := n1_
       clear n0_ n1_
       (try clear hb)
       (try clear hb2)
       (try clear hk)
       (try clear hi)
       refine hK.out _ _ ⟨((HB.out.cell (World.block_lt_of_cell? w _ hw55003_0)).trans hw55003_0), ((HB.out.cell (World.block_lt_of_cell? w _ hw55003_1)).trans hw55003_1), ((HB.out.cell (World.block_lt_of_cell? w _ hw55003_2)).trans hw55003_2), ((HB.out.cell (World.block_lt_of_cell? w _ hw55003_3)).trans hw55003_3)⟩ (fun hHeld => ?_)
       clear hK K
       refine norm_ (a' := ?_) ?_ ?_
       rotate_left
       ·show Act.put _ (some 22) _ = _
        simp only [seval]
        rfl
       refine pu 5 23 ?_ ?_ rfl rfl (any_of HT_.out (by kernel_rfl)) (Or.inl ⟨by rfl, ?_⟩) ?_ ?_
       rotate_left 2
       ·intro w'
        go_simp
        with_reducible rfl
       ·simp only [seval]
        rfl
       refine pu 6 24 ?_ ?_ rfl rfl (any_of HT_.out (by kernel_rfl)) (Or.inl ⟨by rfl, ?_⟩) ?_ ?_
       rotate_left 2
       ·intro w'
        go_simp
        with_reducible rfl
       ·simp only [seval]
        rfl
       refine pure_ (i := 7) (N := some 25) (v := undef) (a' := ?_) #[true, true, true, true, true, true, true, true, false, false, false, false, false, false, false, false, false, false, false, false, false, false, false, false, false, false, false, false, false, false, false, false, false, false, false, false, false, false] rfl rfl (any_of HT_.out (by kernel_rfl)) (fun _ _ _ h => h) (Or.inr ⟨by rfl, rfl⟩) ?_ ?_
       rotate_left
       ·simp only [seval]
        rfl
       refine pure_ (i := 8) (N := some 26) (v := undef) (a' := ?_) #[true, true, true, true, true, true, true, true, true, false, false, false, false, false, false, false, false, false, false, false, false, false, false, false, false, false, false, false, false, false, false, false, false, false, false, false, false, false] rfl rfl (any_of HT_.out (by kernel_rfl)) (fun _ _ _ h => h) (Or.inr ⟨by rfl, rfl⟩) ?_ ?_
       rotate_left
       ·simp only [seval]
        rfl
       refine pure_ (i := 9) (N := some 27) (v := undef) (a' := ?_) #[true, true, true, true, true, true, true, true, true, true, false, false, false, false, false, false, false, false, false, false, false, false, false, false, false, false, false, false, false, false, false, false, false, false, false, false, false, false] rfl rfl (any_of HT_.out (by kernel_rfl)) (fun _ _ _ h => h) (Or.inr ⟨by rfl, rfl⟩) ?_ ?_
       rotate_left
       ·simp only [seval]
        rfl
       refine pure_ (i := 10) (N := some 28) (v := undef) (a' := ?_) #[true, true, true, true, true, true, true, true, true, true, true, false, false, false, false, false, false, false, false, false, false, false, false, false, false, false, false, false, false, false, false, false, false, false, false, false, false, false] rfl rfl (any_of HT_.out (by kernel_rfl)) (fun _ _ _ h => h) (Or.inr ⟨by rfl, rfl⟩) ?_ ?_
       rotate_left
       ·simp only [seval]
        rfl
       refine pure_ (i := 11) (N := some 29) (v := undef) (a' := ?_) #[true, true, true, true, true, true, true, true, true, true, true, true, false, false, false, false, false, false, false, false, false, false, false, false, false, false, false, false, false, false, false, false, false, false, false, false, false, false] rfl rfl (any_of HT_.out (by kernel_rfl)) (fun _ _ _ h => h) (Or.inr ⟨by rfl, rfl⟩) ?_ ?_
       rotate_left
       ·simp only [seval]
        rfl
       refine pure_ (i := 12) (N := some 30) (v := undef) (a' := ?_) #[true, true, true, true, true, true, true, true, true, true, true, true, true, false, false, false, false, false, false, false, false, false, false, false, false, false, false, false, false, false, false, false, false, false, false, false, false, false] rfl rfl (any_of HT_.out (by kernel_rfl)) (fun _ _ _ h => h) (Or.inr ⟨by rfl, rfl⟩) ?_ ?_
       rotate_left
       ·simp only [seval]
        rfl
       refine pu 13 31 ?_ ?_ rfl rfl (any_of HT_.out (by kernel_rfl)) (Or.inl ⟨by rfl, ?_⟩) ?_ ?_
       rotate_left 2
       ·intro w'
        go_simp
        with_reducible rfl
       ·simp only [seval]
        rfl
       refine pu 14 32 ?_ ?_ rfl rfl (any_of HT_.out (by kernel_rfl)) (Or.inl ⟨by rfl, ?_⟩) ?_ ?_
       rotate_left 2
       ·intro w'
        go_simp
        with_reducible rfl
       ·simp only [seval]
        rfl
       refine pure_ (i := 15) (N := some 33) (v := undef) (a' := ?_) #[true, true, true, true, true, true, true, true, true, true, true, true, true, true, true, true, false, false, false, false, false, false, false, false, false, false, false, false, false, false, false, false, false, false, false, false, false, false] rfl rfl (any_of HT_.out (by kernel_rfl)) (fun _ _ _ h => h) (Or.inr ⟨by rfl, rfl⟩) ?_ ?_
       rotate_left
       ·simp only [seval]
        rfl
       refine pure_ (i := 16) (N := some 34) (v := undef) (a' := ?_) #[true, true, true, true, true, true, true, true, true, true, true, true, true, true, true, true, true, false, false, false, false, false, false, false, false, false, false, false, false, false, false, false, false, false, false, false, false, false] rfl rfl (any_of HT_.out (by kernel_rfl)) (fun _ _ _ h => h) (Or.inr ⟨by rfl, rfl⟩) ?_ ?_
       rotate_left
       ·simp only [seval]
        rfl
       refine pure_ (i := 17) (N := some 35) (v := undef) (a' := ?_) #[true, true, true, true, true, true, true, true, true, true, true, true, true, true, true, true, true, true, false, false, false, false, false, false, false, false, false, false, false, false, false, false, false, false, false, false, false, false] rfl rfl (any_of HT_.out (by kernel_rfl)) (fun _ _ _ h => h) (Or.inr ⟨by rfl, rfl⟩) ?_ ?_
       rotate_left
       ·simp only [seval]
        rfl
       refine pure_ (i := 18) (N := some 36) (v := undef) (a' := ?_) #[true, true, true, true, true, true, true, true, true, true, true, true, true, true, true, true, true, true, true, false, false, false, false, false, false, false, false, false, false, false, false, false, false, false, false, false, false, false] rfl rfl (any_of HT_.out (by kernel_rfl)) (fun _ _ _ h => h) (Or.inr ⟨by rfl, rfl⟩) ?_ ?_
       rotate_left
       ·simp only [seval]
        rfl
       refine pure_ (i := 19) (N := some 37) (v := undef) (a' := ?_) #[true, true, true, true, true, true, true, true, true, true, true, true, true, true, true, true, true, true, true, true, false, false, false, false, false, false, false, false, false, false, false, false, false, false, false, false, false, false] rfl rfl (any_of HT_.out (by kernel_rfl)) (fun _ _ _ h => h) (Or.inr ⟨by rfl, rfl⟩) ?_ ?_
       rotate_left
       ·simp only [seval]
        rfl
       refine pure_ (i := 20) (N := some 38) (v := undef) (a' := ?_) #[true, true, true, true, true, true, true, true, true, true, true, true, true, true, true, true, true, true, true, true, true, false, false, false, false, false, false, false, false, false, false, false, false, false, false, false, false, false] rfl rfl (any_of HT_.out (by kernel_rfl)) (fun _ _ _ h => h) (Or.inr ⟨by rfl, rfl⟩) ?_ ?_
       rotate_left
       ·simp only [seval]
        rfl
       refine pure_ (i := 21) (N := some 39) (v := undef) (a' := ?_) #[true, true, true, true, true, true, true, true, true, true, true, true, true, true, true, true, true, true, true, true, true, true, false, false, false, false, false, false, false, false, false, false, false, false, false, false, false, false] rfl rfl (any_of HT_.out (by kernel_rfl)) (fun _ _ _ h => h) (Or.inr ⟨by rfl, rfl⟩) ?_ ?_
       rotate_left
       ·simp only [seval]
        rfl
       refine pure_ (i := 22) (N := some 40) (v := undef) (a' := ?_) #[true, true, true, true, true, true, true, true, true, true, true, true, true, true, true, true, true, true, true, true, true, true, true, false, false, false, false, false, false, false, false, false, false, false, false, false, false, false] rfl rfl (any_of HT_.out (by kernel_rfl)) (fun _ _ _ h => h) (Or.inr ⟨by rfl, rfl⟩) ?_ ?_
       rotate_left
       ·simp only [seval]
        rfl
       refine pure_ (i := 23) (N := some 41) (v := undef) (a' := ?_) #[true, true, true, true, true, true, true, true, true, true, true, true, true, true, true, true, true, true, true, true, true, true, true, true, false, false, false, false, false, false, false, false, false, false, false, false, false, false] rfl rfl (any_of HT_.out (by kernel_rfl)) (fun _ _ _ h => h) (Or.inr ⟨by rfl, rfl⟩) ?_ ?_
       rotate_left
       ·simp only [seval]
        rfl
       refine pure_ (i := 24) (N := some 42) (v := undef) (a' := ?_) #[true, true, true, true, true, true, true, true, true, true, true, true, true, true, true, true, true, true, true, true, true, true, true, true, true, false, false, false, false, false, false, false, false, false, false, false, false, false] rfl rfl (any_of HT_.out (by kernel_rfl)) (fun _ _ _ h => h) (Or.inr ⟨by rfl, rfl⟩) ?_ ?_
       rotate_left
       ·simp only [seval]
        rfl
       refine pu 25 43 ?_ ?_ rfl rfl (any_of HT_.out (by kernel_rfl)) (Or.inl ⟨by rfl, ?_⟩) ?_ ?_
       rotate_left 2
       ·intro w'
        go_simp
        with_reducible rfl
       ·simp only [seval]
        rfl
       refine pu 26 44 ?_ ?_ rfl rfl (any_of HT_.out (by kernel_rfl)) (Or.inl ⟨by rfl, ?_⟩) ?_ ?_
       rotate_left 2
       ·intro w'
        go_simp
        with_reducible rfl
       ·simp only [seval]
        rfl
       refine pure_ (i := 27) (N := some 45) (v := undef) (a' := ?_) #[true, true, true, true, true, true, true, true, true, true, true, true, true, true, true, true, true, true, true, true, true, true, true, true, true, true, true, true, false, false, false, false, false, false, false, false, false, false] rfl rfl (any_of HT_.out (by kernel_rfl)) (fun _ _ _ h => h) (Or.inr ⟨by rfl, rfl⟩) ?_ ?_
       rotate_left
       ·simp only [seval]
        rfl
       refine pure_ (i := 28) (N := some 46) (v := undef) (a' := ?_) #[true, true, true, true, true, true, true, true, true, true, true, true, true, true, true, true, true, true, true, true, true, true, true, true, true, true, true, true, true, false, false, false, false, false, false, false, false, false] rfl rfl (any_of HT_.out (by kernel_rfl)) (fun _ _ _ h => h) (Or.inr ⟨by rfl, rfl⟩) ?_ ?_
       rotate_left
       ·simp only [seval]
        rfl
       refine pure_ (i := 29) (N := some 47) (v := undef) (a' := ?_) #[true, true, true, true, true, true, true, true, true, true, true, true, true, true, true, true, true, true, true, true, true, true, true, true, true, true, true, true, true, true, false, false, false, false, false, false, false, false] rfl rfl (any_of HT_.out (by kernel_rfl)) (fun _ _ _ h => h) (Or.inr ⟨by rfl, rfl⟩) ?_ ?_
       rotate_left
       ·simp only [seval]
        rfl
       refine pure_ (i := 30) (N := some 48) (v := undef) (a' := ?_) #[true, true, true, true, true, true, true, true, true, true, true, true, true, true, true, true, true, true, true, true, true, true, true, true, true, true, true, true, true, true, true, false, false, false, false, false, false, false] rfl rfl (any_of HT_.out (by kernel_rfl)) (fun _ _ _ h => h) (Or.inr ⟨by rfl, rfl⟩) ?_ ?_
       rotate_left
       ·simp only [seval]
        rfl
       refine pure_ (i := 31) (N := some 49) (v := undef) (a' := ?_) #[true, true, true, true, true, true, true, true, true, true, true, true, true, true, true, true, true, true, true, true, true, true, true, true, true, true, true, true, true, true, true, true, false, false, false, false, false, false] rfl rfl (any_of HT_.out (by kernel_rfl)) (fun _ _ _ h => h) (Or.inr ⟨by rfl, rfl⟩) ?_ ?_
       rotate_left
       ·simp only [seval]
        rfl
       refine pure_ (i := 32) (N := some 50) (v := undef) (a' := ?_) #[true, true, true, true, true, true, true, true, true, true, true, true, true, true, true, true, true, true, true, true, true, true, true, true, true, true, true, true, true, true, true, true, true, false, false, false, false, false] rfl rfl (any_of HT_.out (by kernel_rfl)) (fun _ _ _ h => h) (Or.inr ⟨by rfl, rfl⟩) ?_ ?_
       rotate_left
       ·simp only [seval]
        rfl
       refine pure_ (i := 33) (N := some 51) (v := undef) (a' := ?_) #[true, true, true, true, true, true, true, true, true, true, true, true, true, true, true, true, true, true, true, true, true, true, true, true, true, true, true, true, true, true, true, true, true, true, false, false, false, false] rfl rfl (any_of HT_.out (by kernel_rfl)) (fun _ _ _ h => h) (Or.inr ⟨by rfl, rfl⟩) ?_ ?_
       rotate_left
       ·simp only [seval]
        rfl
       refine pure_ (i := 34) (N := some 52) (v := undef) (a' := ?_) #[true, true, true, true, true, true, true, true, true, true, true, true, true, true, true, true, true, true, true, true, true, true, true, true, true, true, true, true, true, true, true, true, true, true, true, false, false, false] rfl rfl (any_of HT_.out (by kernel_rfl)) (fun _ _ _ h => h) (Or.inr ⟨by rfl, rfl⟩) ?_ ?_
       rotate_left
       ·simp only [seval]
        rfl
       refine pure_ (i := 35) (N := some 53) (v := undef) (a' := ?_) #[true, true, true, true, true, true, true, true, true, true, true, true, true, true, true, true, true, true, true, true, true, true, true, true, true, true, true, true, true, true, true, true, true, true, true, true, false, false] rfl rfl (any_of HT_.out (by kernel_rfl)) (fun _ _ _ h => h) (Or.inr ⟨by rfl, rfl⟩) ?_ ?_
       rotate_left
       ·simp only [seval]
        rfl
       refine pure_ (i := 36) (N := some 54) (v := undef) (a' := ?_) #[true, true, true, true, true, true, true, true, true, true, true, true, true, true, true, true, true, true, true, true, true, true, true, true, true, true, true, true, true, true, true, true, true, true, true, true, true, false] rfl rfl (any_of HT_.out (by kernel_rfl)) (fun _ _ _ h => h) (Or.inr ⟨by rfl, rfl⟩) ?_ ?_
       rotate_left
       ·simp only [seval]
        rfl
       refine pu 37 55 ?_ ?_ rfl rfl (any_of HT_.out (by kernel_rfl)) (Or.inl ⟨by rfl, ?_⟩) ?_ ?_
       rotate_left 2
       ·intro w'
        go_simp
        with_reducible rfl
       ·simp only [seval]
        rfl
       refine done_ (done_of HT_.out (by kernel_rfl)) ?_
       have hcz26_0 : w25.cell? ⟨gb55001, 0, none⟩ = some (.int .i64 x55002000_1) := (blk_cell BK55001.out 0).trans rfl
       have hcz26_1 : w25.cell? ⟨gb55001, 1, none⟩ = some (.int .i64 x55002001_1) := (blk_cell BK55001.out 1).trans rfl
       have hcz26_2 : w25.cell? ⟨gb55001, 2, none⟩ = some (.int .i64 x55002002_1) := (blk_cell BK55001.out 2).trans rfl
       have hcz26_3 : w25.cell? ⟨gb55001, 3, none⟩ = some (.slice none 0 0) := (blk_cell BK55001.out 3).trans rfl
       have hfz26_0 := blk_frozen BK55001.out 0
       have hfz26_1 := blk_frozen BK55001.out 1
       have hfz26_2 := blk_frozen BK55001.out 2
       have hfz26_3 := blk_frozen BK55001.out 3
       try go_wp2
       refine bodyPost_ret (results_ct rfl _ _ gb55001 27 #[.int .i64 0, .int .i64 0, .int .i64 0, .slice none 0 0] (0, 0) _ rfl (by (with_reducible repeat (first | refine blk_drewN ?_ _ | refine blk_drew ?_ | refine blk_alloc ?_ _)); refine blk_put (cs := #[.int .i64 0, .int .i64 0, .int .i64 0, .slice none 0 0]) ?_ 3 _ rfl; (with_reducible repeat (first | refine blk_drewN ?_ _ | refine blk_drew ?_ | refine blk_alloc ?_ _)); refine blk_put (cs := #[.int .i64 0, .int .i64 0, .int .i64 x55002002_1, .slice none 0 0]) ?_ 2 _ rfl; (with_reducible repeat (first | refine blk_drewN ?_ _ | refine blk_drew ?_ | refine blk_alloc ?_ _)); refine blk_put (cs := #[.int .i64 0, .int .i64 x55002001_1, .int .i64 x55002002_1, .slice none 0 0]) ?_ 1 _ rfl; (with_reducible repeat (first | refine blk_drewN ?_ _ | refine blk_drew ?_ | refine blk_alloc ?_ _)); refine blk_put (cs := #[.int .i64 x55002000_1, .int .i64 x55002001_1, .int .i64 x55002002_1, .slice none 0 0]) ?_ 0 _ rfl; (with_reducible repeat (first | refine blk_drewN ?_ _ | refine blk_drew ?_ | refine blk_alloc ?_ _)); exact BK55001.out) Try.underlying27 rfl (by kernel_rfl)) rfl ?_
       exact ⟨_, by first | rfl | (simp [errW_none, errW_some] <;> rfl) | (simp [*, errW_none, errW_some] <;> rfl), by first | exact Kd.R_nil _ _ _ _ _ | exact Kd.N_nil _ _ _ _ _ | exact Kd.V_nil _ _ _ _ _ | exact Kd.Q_nil _ _ _ _ _ | exact Kd.S_nil _ _ _ _ _, by repeat (first | (with_reducible first | exact HB.out | apply below_alloc | apply pw_below_drewN | apply below_drew1 | refine below_set ?_ GE55001.out) | exact HB.out)⟩
     ·rw [if_neg c6] at H
      exact absurd H (by simp)
    ·rw [if_neg c5] at H
     have c5b0 : decide (x4_1 < (l0.length : Int)) = false := decide_eq_false c5
     clear c5
     by_cases c27 : 0 < (l0.length : Int)
     ·rw [if_pos c27] at H
      have c27b0 : decide (0 < (l0.length : Int)) = true := decide_eq_true c27
      have c27b1 : decide (0 < l0.length) = true := decide_eq_true (by omega)
      clear c27
      replace H := Option.bind_eq_some_iff.mp H
      obtain ⟨⟨t55012, t55013, t55014, t55015⟩, A280, H⟩ := H
      replace H : (spec_MergePlanes.l1 k1 l0 0 t55012 t55013 t55014 t55015) = some (r1, r2, r3, r4, r5) := H
      have A28 := Aside0.mk A280
      clear A280
      have H' := Aside0.mk H
      clear H
      try go_wp2
      have n0_ := Aside0.mk (blk_drew BK55001.out)
      have n1_ := Aside0.mk (below_drew1 HB.out)
      clear BK55001
      clear HB
      have BK55001 := n0_
      have HB := n1_
      clear n0_ n1_
      have p55010 : 0 ≤ (0 : Int) := (by omega)
      have q55010 : 0 < (l0.length : Int) := of_decide_eq_true (by first | (with_reducible assumption) | assumption)
      obtain ⟨ad55010, A55010_3, c55010_3, e55010, hx55010_0, hx55010_1, hx55010_2, hx55010_3, hl55010_3, hi55010_3⟩ := at_T27 HR0.out 0 p55010 q55010
      have hw55010_3 := hx55010_3
      (try rw [show ((0 : Int)).toNat = 0 from rfl] at hw55010_3)
      (try rw [show 0 * 4 = 0 from rfl] at hw55010_3)
      (try rw [Addr.add_zero'] at hw55010_3)
      have hw55010_2 := hx55010_2
      (try rw [show ((0 : Int)).toNat = 0 from rfl] at hw55010_2)
      (try rw [show 0 * 4 = 0 from rfl] at hw55010_2)
      (try rw [Addr.add_zero'] at hw55010_2)
      have hw55010_1 := hx55010_1
      (try rw [show ((0 : Int)).toNat = 0 from rfl] at hw55010_1)
      (try rw [show 0 * 4 = 0 from rfl] at hw55010_1)
      (try rw [Addr.add_zero'] at hw55010_1)
      have hw55010_0 := hx55010_0
      (try rw [show ((0 : Int)).toNat = 0 from rfl] at hw55010_0)
      (try rw [show 0 * 4 = 0 from rfl] at hw55010_0)
      (try rw [Addr.add_zero'] at hw55010_0)
      cases e55010
      have qi55010 : (0 < l0.length) = True := eq_true (by omega)
      (try rw [show ((0 : Int)).toNat = 0 from rfl] at hx55010_0)
      (try rw [show 0 * 4 = 0 from rfl] at hx55010_0)
      (try rw [Addr.add_zero'] at hx55010_0)
      (try rw [show ((0 : Int)).toNat = 0 from rfl] at hx55010_1)
      (try rw [show 0 * 4 = 0 from rfl] at hx55010_1)
      (try rw [Addr.add_zero'] at hx55010_1)
      (try rw [show ((0 : Int)).toNat = 0 from rfl] at hx55010_2)
      (try rw [show 0 * 4 = 0 from rfl] at hx55010_2)
      (try rw [Addr.add_zero'] at hx55010_2)
      (try rw [show ((0 : Int)).toNat = 0 from rfl] at hx55010_3)
      (try rw [show 0 * 4 = 0 from rfl] at hx55010_3)
      (try rw [Addr.add_zero'] at hx55010_3)
      replace hx55010_0 := (HB.out.cell (World.block_lt_of_cell? w _ hx55010_0)).trans hx55010_0
      replace hx55010_1 := (HB.out.cell (World.block_lt_of_cell? w _ hx55010_1)).trans hx55010_1
      replace hx55010_2 := (HB.out.cell (World.block_lt_of_cell? w _ hx55010_2)).trans hx55010_2
      replace hx55010_3 := (HB.out.cell (World.block_lt_of_cell? w _ hx55010_3)).trans hx55010_3
      have HR55010_3 := Aside0.mk hi55010_3
      have HC55010_3 := Aside0.mk hl55010_3
      clear hi55010_3 hl55010_3
      replace p55010 := eq_true p55010
      replace q55010 := eq_true q55010
      have p55011 : 0 ≤ (0 : Int) := (by omega)
      have q55011 : 0 < (l0.length : Int) := of_decide_eq_true (by first | (with_reducible assumption) | assumption)
      obtain ⟨ad55011, A55011_3, c55011_3, e55011, hx55011_0, hx55011_1, hx55011_2, hx55011_3, hl55011_3, hi55011_3⟩ := at_T27 HR0.out 0 p55011 q55011
      have hw55011_3 := hx55011_3
      (try rw [show ((0 : Int)).toNat = 0 from rfl] at hw55011_3)
      (try rw [show 0 * 4 = 0 from rfl] at hw55011_3)
      (try rw [Addr.add_zero'] at hw55011_3)
      have hw55011_2 := hx55011_2
      (try rw [show ((0 : Int)).toNat = 0 from rfl] at hw55011_2)
      (try rw [show 0 * 4 = 0 from rfl] at hw55011_2)
      (try rw [Addr.add_zero'] at hw55011_2)
      have hw55011_1 := hx55011_1
      (try rw [show ((0 : Int)).toNat = 0 from rfl] at hw55011_1)
      (try rw [show 0 * 4 = 0 from rfl] at hw55011_1)
      (try rw [Addr.add_zero'] at hw55011_1)
      have hw55011_0 := hx55011_0
      (try rw [show ((0 : Int)).toNat = 0 from rfl] at hw55011_0)
      (try rw [show 0 * 4 = 0 from rfl] at hw55011_0)
      (try rw [Addr.add_zero'] at hw55011_0)
      obtain rfl : ad55010 = ad55011 := (by injection e55011)
      have qi55011 : (0 < l0.length) = True := eq_true (by omega)
      (try rw [show ((0 : Int)).toNat = 0 from rfl] at hx55011_0)
      (try rw [show 0 * 4 = 0 from rfl] at hx55011_0)
      (try rw [Addr.add_zero'] at hx55011_0)
      (try rw [show ((0 : Int)).toNat = 0 from rfl] at hx55011_1)
      (try rw [show 0 * 4 = 0 from rfl] at hx55011_1)
      (try rw [Addr.add_zero'] at hx55011_1)
      (try rw [show ((0 : Int)).toNat = 0 from rfl] at hx55011_2)
      (try rw [show 0 * 4 = 0 from rfl] at hx55011_2)
      (try rw [Addr.add_zero'] at hx55011_2)
      (try rw [show ((0 : Int)).toNat = 0 from rfl] at hx55011_3)
      (try rw [show 0 * 4 = 0 from rfl] at hx55011_3)
      (try rw [Addr.add_zero'] at hx55011_3)
      replace hx55011_0 := (HB.out.cell (World.block_lt_of_cell? w _ hx55011_0)).trans hx55011_0
      replace hx55011_1 := (HB.out.cell (World.block_lt_of_cell? w _ hx55011_1)).trans hx55011_1
      replace hx55011_2 := (HB.out.cell (World.block_lt_of_cell? w _ hx55011_2)).trans hx55011_2
      replace hx55011_3 := (HB.out.cell (World.block_lt_of_cell? w _ hx55011_3)).trans hx55011_3
      have HR55011_3 := Aside0.mk hi55011_3
      have HC55011_3 := Aside0.mk hl55011_3
      clear hi55011_3 hl55011_3
      replace p55011 := eq_true p55011
      replace q55011 := eq_true q55011
      have ea_ := Option.some.inj (hx55010_3.symm.trans hx55011_3)
      injection ea_ with ea_ en_ ec_
      subst ea_
      subst ec_
      clear en_
      refine start_ (n := 13) (S := fun w' => w'.cell? ad55010 = some (.int .i64 ((rd_T27 l0 0).f0)) ∧ w'.cell? ⟨ad55010.block, ad55010.off + 1, none⟩ = some (.int .i64 ((rd_T27 l0 0).f1)) ∧ w'.cell? ⟨ad55010.block, ad55010.off + 2, none⟩ = some (.int .i64 ((rd_T27 l0 0).f2)) ∧ w'.cell? ⟨ad55010.block, ad55010.off + 3, none⟩ = some (.slice A55010_3 ((rd_T27 l0 0).f3).length c55010_3) ∧ w'.cell? ad55010 = some (.int .i64 ((rd_T27 l0 0).f0)) ∧ w'.cell? ⟨ad55010.block, ad55010.off + 1, none⟩ = some (.int .i64 ((rd_T27 l0 0).f1)) ∧ w'.cell? ⟨ad55010.block, ad55010.off + 2, none⟩ = some (.int .i64 ((rd_T27 l0 0).f2)) ∧ w'.cell? ⟨ad55010.block, ad55010.off + 3, none⟩ = some (.slice A55010_3 ((rd_T27 l0 0).f3).length c55010_3)) (ds := []) #[false, false, false, false, false, false, false, false, false, false, false, false, false] (by kernel_rfl) rfl rfl ⟨((HB.out.cell (World.block_lt_of_cell? w _ hw55010_0)).trans hw55010_0), ((HB.out.cell (World.block_lt_of_cell? w _ hw55010_1)).trans hw55010_1), ((HB.out.cell (World.block_lt_of_cell? w _ hw55010_2)).trans hw55010_2), ((HB.out.cell (World.block_lt_of_cell? w _ hw55010_3)).trans hw55010_3), ((HB.out.cell (World.block_lt_of_cell? w _ hw55011_0)).trans hw55011_0), ((HB.out.cell (World.block_lt_of_cell? w _ hw55011_1)).trans hw55011_1), ((HB.out.cell (World.block_lt_of_cell? w _ hw55011_2)).trans hw55011_2), ((HB.out.cell (World.block_lt_of_cell? w _ hw55011_3)).trans hw55011_3)⟩ (fun hHeld => ?_); refine with_tabW spec_MergePlanes.tab8 spec_MergePlanes.bits8 (fun HT_ HW_ => ?_)
      generalize wr.drew = w29 at BK55001 HB HR55010_3 HR55011_3 hx55010_0 hx55010_1 hx55010_2 hx55010_3 hx55011_0 hx55011_1 hx55011_2 hx55011_3 hHeld ⊢
      refine pu 0 57 ?_ ?_ rfl rfl (any_of HT_.out (by kernel_rfl)) (Or.inl ⟨by rfl, ?_⟩) ?_ ?_
      rotate_left 2
      ·intro w'
       go_simp
       with_reducible rfl
      ·simp only [seval]
       rfl
      refine pu 1 58 ?_ ?_ rfl rfl (any_of HT_.out (by kernel_rfl)) (Or.inl ⟨by rfl, ?_⟩) ?_ ?_
      rotate_left 2
      ·intro w'
       go_simp
       with_reducible rfl
      ·simp only [seval]
       rfl
      refine pu 2 59 ?_ ?_ rfl rfl (any_of HT_.out (by kernel_rfl)) (Or.inl ⟨by rfl, ?_⟩) ?_ ?_
      rotate_left 2
      ·intro w'
       go_simp
       with_reducible rfl
      ·simp only [seval]
       rfl
      refine pu 4 61 ?_ ?_ rfl rfl (any_of HT_.out (by kernel_rfl)) (Or.inl ⟨by rfl, ?_⟩) ?_ ?_
      rotate_left 2
      ·intro w'
       go_simp
       with_reducible rfl
      ·simp only [seval]
       rfl
      refine pu 5 62 ?_ ?_ rfl rfl (any_of HT_.out (by kernel_rfl)) (Or.inl ⟨by rfl, ?_⟩) ?_ ?_
      rotate_left 2
      ·intro w'
       go_simp
       with_reducible rfl
      ·simp only [seval]
       rfl
      refine pu 6 63 ?_ ?_ rfl rfl (any_of HT_.out (by kernel_rfl)) (Or.inl ⟨by rfl, ?_⟩) ?_ ?_
      rotate_left 2
      ·intro w'
       go_simp
       with_reducible rfl
      ·simp only [seval]
       rfl
      refine pu 8 65 ?_ ?_ rfl rfl (any_of HT_.out (by kernel_rfl)) (Or.inl ⟨by rfl, ?_⟩) ?_ ?_
      rotate_left 2
      ·intro w'
       go_simp
       with_reducible rfl
      ·simp only [seval]
       rfl
      refine pu 9 66 ?_ ?_ rfl rfl (any_of HT_.out (by kernel_rfl)) (Or.inl ⟨by rfl, ?_⟩) ?_ ?_
      rotate_left 2
      ·intro w'
       go_simp
       with_reducible rfl
      ·simp only [seval]
       rfl
      refine tk 3 60 ?_ ?_ rfl rfl (take_ofW HT_.out HW_.out (by kernel_rfl)) (Or.inl ⟨by rfl, ?_⟩) hHeld ?_ ?_
      rotate_left 2
      ·rintro w' ⟨s0, s1, s2, s3, s4, s5, s6, s7⟩
       go_simp
       with_reducible rfl
      ·simp only [seval]
       rfl
      refine tk 7 64 ?_ ?_ rfl rfl (take_ofW HT_.out HW_.out (by kernel_rfl)) (Or.inl ⟨by rfl, ?_⟩) hHeld ?_ ?_
      rotate_left 2
      ·rintro w' ⟨s0, s1, s2, s3, s4, s5, s6, s7⟩
       go_simp
       with_reducible rfl
      ·simp only [seval]
       rfl
      refine join_ (σ := Value × Nat) 1 #[true, true, true, true, true, true, true, true, true, true, true, true, false] (fun s_ => [(67, .agg #[.int .i64 t55012, .int .i64 t55013, .int .i64 t55014, s_.1]), (5, .pointer (some ⟨s_.2, 0, none⟩))]) (fun s_ w' => (w'.cell? ad55010 = some (.int .i64 ((rd_T27 l0 0).f0)) ∧ w'.cell? ⟨ad55010.block, ad55010.off + 1, none⟩ = some (.int .i64 ((rd_T27 l0 0).f1)) ∧ w'.cell? ⟨ad55010.block, ad55010.off + 2, none⟩ = some (.int .i64 ((rd_T27 l0 0).f2)) ∧ w'.cell? ⟨ad55010.block, ad55010.off + 3, none⟩ = some (.slice A55010_3 ((rd_T27 l0 0).f3).length c55010_3) ∧ w'.cell? ad55010 = some (.int .i64 ((rd_T27 l0 0).f0)) ∧ w'.cell? ⟨ad55010.block, ad55010.off + 1, none⟩ = some (.int .i64 ((rd_T27 l0 0).f1)) ∧ w'.cell? ⟨ad55010.block, ad55010.off + 2, none⟩ = some (.int .i64 ((rd_T27 l0 0).f2)) ∧ w'.cell? ⟨ad55010.block, ad55010.off + 3, none⟩ = some (.slice A55010_3 ((rd_T27 l0 0).f3).length c55010_3)) ∧ (Kd.R (Kd.int .i64) 3 w' w.heap.size (fun _ => True) s_.1 t55015) ∧ (w'.heap[gb55001]? = some (.cells #[.int .i64 x55002000_1, .int .i64 x55002001_1, .int .i64 x55002002_1, .slice none 0 0] 27 (0, 0))) ∧ (w'.heap[s_.2]? = some (.cells #[.int .i64 0, .int .i64 0, .int .i64 0, .slice none 0 0] 27 (0, 0))) ∧ (w.heap.size ≤ s_.2) ∧ (w.heap.size ≤ s_.2) ∧ (gb55001 ≠ s_.2) ∧ (s_.2 ≠ gb55001) ∧ (Below w.heap.size w w')) ?_ ?_
      rotate_left
      ·intro hCont
       refine two_ (i := 10) (j := 11) (Ni := some 67) (Nj := some 5) #[true, true, true, true, true, true, true, true, true, true, true, false, false] #[true, true, true, true, true, true, true, true, true, true, false, true, false] rfl rfl rfl rfl (two_of HT_.out (by kernel_rfl)) (by decide) (by decide) (fun K hK => ?_) (fun K hK => ?_)
       ·skip
        refine goes_ Try.func111 (by kernel_rfl) rfl #[.int .i64 ((rd_T27 l0 0).f0), .int .i64 ((rd_T27 l0 0).f1), .int .i64 (l0.length : Int)] (by rfl) rfl rfl (by (try simp only [bitvec_to_nat]); first | done | rfl | (simp only [List.length_drop, List.length_take]; rfl)) ?_
        with_reducible refine (spec_newImage.calls ((rd_T27 l0 0).f0) ((rd_T27 l0 0).f1) (l0.length : Int) t55012 t55013 t55014 t55015 _ A28.out).mono ?_
        rintro e w30 ⟨v55016, rfl, ho0, hb⟩
        refine ⟨_, rfl, ?_⟩
        have n0_ := Aside0.mk (Kd.R_lower ho0 (below_size (by repeat (first | (with_reducible first | exact HB.out | apply below_alloc | apply pw_below_drewN | apply below_drew1 | refine below_set ?_ GE55001.out) | exact HB.out))))
        have n1_ := Aside0.mk (blk_below (g := gb55001) (o := .cells #[.int .i64 x55002000_1, .int .i64 x55002001_1, .int .i64 x55002002_1, .slice none 0 0] 27 (0, 0)) (by (with_reducible repeat (first | refine blk_drewN ?_ _ | refine blk_drew ?_ | refine blk_alloc ?_ _)); exact BK55001.out) hb)
        have n2_ := Aside0.mk (below_step (by repeat (first | (with_reducible first | exact HB.out | apply below_alloc | apply pw_below_drewN | apply below_drew1 | refine below_set ?_ GE55001.out) | exact HB.out)) hb)
        clear BK55001
        clear HB
        have HO55017 := n0_
        have BK55001 := n1_
        have HB := n2_
        clear n0_ n1_ n2_
        (try clear hb)
        (try clear hb2)
        (try clear hk)
        (try clear hi)
        (try clear ho0)
        refine hK.out _ _ ⟨((HB.out.cell (World.block_lt_of_cell? w _ hw55010_0)).trans hw55010_0), ((HB.out.cell (World.block_lt_of_cell? w _ hw55010_1)).trans hw55010_1), ((HB.out.cell (World.block_lt_of_cell? w _ hw55010_2)).trans hw55010_2), ((HB.out.cell (World.block_lt_of_cell? w _ hw55010_3)).trans hw55010_3), ((HB.out.cell (World.block_lt_of_cell? w _ hw55011_0)).trans hw55011_0), ((HB.out.cell (World.block_lt_of_cell? w _ hw55011_1)).trans hw55011_1), ((HB.out.cell (World.block_lt_of_cell? w _ hw55011_2)).trans hw55011_2), ((HB.out.cell (World.block_lt_of_cell? w _ hw55011_3)).trans hw55011_3)⟩ (fun hHeld => ?_)
        clear hK K
        refine norm_ (a' := ?_) ?_ ?_
        rotate_left
        ·show Act.put _ (some 67) _ = _
         simp only [seval]
         rfl
        refine one_ (i := 11) (N := some 5) #[true, true, true, true, true, true, true, true, true, true, true, true, false] rfl rfl (one_of HT_.out (by kernel_rfl)) (by decide) (fun K hK => ?_)
        refine box_step ?hg (N := 5) ?hd (cs := #[.int .i64 0, .int .i64 0, .int .i64 0, .slice none 0 0]) (t := 27) ?hr ?_; (case hd => rfl); (case hg => rfl); (case hr => first | (go_simp; done) | (go_simp; rfl))
        intro gb55018 hg w31 hbox hb
        have n0_ := Aside0.mk (Kd.R_below (by (with_reducible repeat (first | apply Kd.R_alloc | apply Kd.R_drewN | apply Kd.R_drew)); exact HO55017.out) hb)
        have n1_ := Aside0.mk (blk_below (g := gb55001) (o := .cells #[.int .i64 x55002000_1, .int .i64 x55002001_1, .int .i64 x55002002_1, .slice none 0 0] 27 (0, 0)) (by (with_reducible repeat (first | refine blk_drewN ?_ _ | refine blk_drew ?_ | refine blk_alloc ?_ _)); exact BK55001.out) hb)
        have n2_ := Aside0.mk (below_step (by repeat (first | (with_reducible first | exact HB.out | apply below_alloc | apply pw_below_drewN | apply below_drew1 | refine below_set ?_ GE55001.out) | exact HB.out)) hb)
        have n3_ := Aside0.mk (hbox)
        have n4_ := Aside0.mk ((by rw [hg]; exact (below_size (by repeat (first | (with_reducible first | exact HB.out | apply below_alloc | apply pw_below_drewN | apply below_drew1 | refine below_set ?_ GE55001.out) | exact HB.out))) : w.heap.size ≤ gb55018))
        have n5_ := Aside0.mk ((by rw [hg]; exact (below_size (by repeat (first | (with_reducible first | exact HB.out | apply below_alloc | apply pw_below_drewN | apply below_drew1 | refine below_set ?_ GE55001.out) | exact HB.out))) : w.heap.size ≤ gb55018))
        have n6_ := Aside0.mk ((by rw [hg]; exact Nat.ne_of_lt (blk_lt (g := gb55001) (o := .cells #[.int .i64 x55002000_1, .int .i64 x55002001_1, .int .i64 x55002002_1, .slice none 0 0] 27 (0, 0)) (by (with_reducible repeat (first | refine blk_drewN ?_ _ | refine blk_drew ?_ | refine blk_alloc ?_ _)); exact BK55001.out)) : gb55001 ≠ gb55018))
        have n7_ := Aside0.mk ((by rw [hg]; exact Nat.ne_of_gt (blk_lt (g := gb55001) (o := .cells #[.int .i64 x55002000_1, .int .i64 x55002001_1, .int .i64 x55002002_1, .slice none 0 0] 27 (0, 0)) (by (with_reducible repeat (first | refine blk_drewN ?_ _ | refine blk_drew ?_ | refine blk_alloc ?_ _)); exact BK55001.out)) : gb55018 ≠ gb55001))
        clear HO55017
        clear BK55001
        clear HB
        have HO55017 := n0_
        have BK55001 := n1_
        have HB := n2_
        have BK55018 := n3_
        have GW55018 := n4_
        have GE55018 := n5_
        have NB55001_55018 := n6_
        have NB55018_55001 := n7_
        clear n0_ n1_ n2_ n3_ n4_ n5_ n6_ n7_
        clear hb hbox hg
        refine hK.out _ _ ⟨((HB.out.cell (World.block_lt_of_cell? w _ hw55010_0)).trans hw55010_0), ((HB.out.cell (World.block_lt_of_cell? w _ hw55010_1)).trans hw55010_1), ((HB.out.cell (World.block_lt_of_cell? w _ hw55010_2)).trans hw55010_2), ((HB.out.cell (World.block_lt_of_cell? w _ hw55010_3)).trans hw55010_3), ((HB.out.cell (World.block_lt_of_cell? w _ hw55011_0)).trans hw55011_0), ((HB.out.cell (World.block_lt_of_cell? w _ hw55011_1)).trans hw55011_1), ((HB.out.cell (World.block_lt_of_cell? w _ hw55011_2)).trans hw55011_2), ((HB.out.cell (World.block_lt_of_cell? w _ hw55011_3)).trans hw55011_3)⟩ (fun hHeld => ?_)
        clear hK K
        refine norm_ (a' := ?_) ?_ ?_
        rotate_left
        ·show Act.put _ (some 5) _ = _
         simp only [seval]
         rfl
        exact norm_ (by simp only [putAll, Act.put, List.setIfInBounds_toArray, List.set_cons_zero, List.set_cons_succ]) (hCont (v55016, gb55018) _ ⟨hHeld, (by (with_reducible repeat (first | apply Kd.R_alloc | apply Kd.R_drewN | apply Kd.R_drew)); exact HO55017.out), (by (with_reducible repeat (first | refine blk_drewN ?_ _ | refine blk_drew ?_ | refine blk_alloc ?_ _)); exact BK55001.out), (by (with_reducible repeat (first | refine blk_drewN ?_ _ | refine blk_drew ?_ | refine blk_alloc ?_ _)); exact BK55018.out), GW55018.out, GE55018.out, NB55001_55018.out, NB55018_55001.out, (by repeat (first | (with_reducible first | exact HB.out | apply below_alloc | apply pw_below_drewN | apply below_drew1 | refine below_set ?_ GE55001.out | refine below_set ?_ GE55018.out) | exact HB.out))⟩)
       ·skip
        refine box_step ?hg (N := 5) ?hd (cs := #[.int .i64 0, .int .i64 0, .int .i64 0, .slice none 0 0]) (t := 27) ?hr ?_; (case hd => rfl); (case hg => rfl); (case hr => first | (go_simp; done) | (go_simp; rfl))
        intro gb55018 hg w30 hbox hb
        have n0_ := Aside0.mk (blk_below (g := gb55001) (o := .cells #[.int .i64 x55002000_1, .int .i64 x55002001_1, .int .i64 x55002002_1, .slice none 0 0] 27 (0, 0)) (by (with_reducible repeat (first | refine blk_drewN ?_ _ | refine blk_drew ?_ | refine blk_alloc ?_ _)); exact BK55001.out) hb)
        have n1_ := Aside0.mk (below_step (by repeat (first | (with_reducible first | exact HB.out | apply below_alloc | apply pw_below_drewN | apply below_drew1 | refine below_set ?_ GE55001.out) | exact HB.out)) hb)
        have n2_ := Aside0.mk (hbox)
        have n3_ := Aside0.mk ((by rw [hg]; exact (below_size (by repeat (first | (with_reducible first | exact HB.out | apply below_alloc | apply pw_below_drewN | apply below_drew1 | refine below_set ?_ GE55001.out) | exact HB.out))) : w.heap.size ≤ gb55018))
        have n4_ := Aside0.mk ((by rw [hg]; exact (below_size (by repeat (first | (with_reducible first | exact HB.out | apply below_alloc | apply pw_below_drewN | apply below_drew1 | refine below_set ?_ GE55001.out) | exact HB.out))) : w.heap.size ≤ gb55018))
        have n5_ := Aside0.mk ((by rw [hg]; exact Nat.ne_of_lt (blk_lt (g := gb55001) (o := .cells #[.int .i64 x55002000_1, .int .i64 x55002001_1, .int .i64 x55002002_1, .slice none 0 0] 27 (0, 0)) (by (with_reducible repeat (first | refine blk_drewN ?_ _ | refine blk_drew ?_ | refine blk_alloc ?_ _)); exact BK55001.out)) : gb55001 ≠ gb55018))
        have n6_ := Aside0.mk ((by rw [hg]; exact Nat.ne_of_gt (blk_lt (g := gb55001) (o := .cells #[.int .i64 x55002000_1, .int .i64 x55002001_1, .int .i64 x55002002_1, .slice none 0 0] 27 (0, 0)) (by (with_reducible repeat (first | refine blk_drewN ?_ _ | refine blk_drew ?_ | refine blk_alloc ?_ _)); exact BK55001.out)) : gb55018 ≠ gb55001))
        clear BK55001
        clear HB
        have BK55001 := n0_
        have HB := n1_
        have BK55018 := n2_
        have GW55018 := n3_
        have GE55018 := n4_
        have NB55001_55018 := n5_
        have NB55018_55001 := n6_
        clear n0_ n1_ n2_ n3_ n4_ n5_ n6_
        clear hb hbox hg
        refine hK.out _ _ ⟨((HB.out.cell (World.block_lt_of_cell? w _ hw55010_0)).trans hw55010_0), ((HB.out.cell (World.block_lt_of_cell? w _ hw55010_1)).trans hw55010_1), ((HB.out.cell (World.block_lt_of_cell? w _ hw55010_2)).trans hw55010_2), ((HB.out.cell (World.block_lt_of_cell? w _ hw55010_3)).trans hw55010_3), ((HB.out.cell (World.block_lt_of_cell? w _ hw55011_0)).trans hw55011_0), ((HB.out.cell (World.block_lt_of_cell? w _ hw55011_1)).trans hw55011_1), ((HB.out.cell (World.block_lt_of_cell? w _ hw55011_2)).trans hw55011_2), ((HB.out.cell (World.block_lt_of_cell? w _ hw55011_3)).trans hw55011_3)⟩ (fun hHeld => ?_)
        clear hK K
        refine norm_ (a' := ?_) ?_ ?_
        rotate_left
        ·show Act.put _ (some 5) _ = _
         simp only [seval]
         rfl
        refine one_ (i := 10) (N := some 67) #[true, true, true, true, true, true, true, true, true, true, true, true, false] rfl rfl (one_of HT_.out (by kernel_rfl)) (by decide) (fun K hK => ?_)
        refine goes_ Try.func111 (by kernel_rfl) rfl #[.int .i64 ((rd_T27 l0 0).f0), .int .i64 ((rd_T27 l0 0).f1), .int .i64 (l0.length : Int)] (by rfl) rfl rfl (by (try simp only [bitvec_to_nat]); first | done | rfl | (simp only [List.length_drop, List.length_take]; rfl)) ?_
        with_reducible refine (spec_newImage.calls ((rd_T27 l0 0).f0) ((rd_T27 l0 0).f1) (l0.length : Int) t55012 t55013 t55014 t55015 _ A28.out).mono ?_
        rintro e w31 ⟨v55016, rfl, ho0, hb⟩
        refine ⟨_, rfl, ?_⟩
        have n0_ := Aside0.mk (Kd.R_lower ho0 (below_size (by repeat (first | (with_reducible first | exact HB.out | apply below_alloc | apply pw_below_drewN | apply below_drew1 | refine below_set ?_ GE55001.out | refine below_set ?_ GE55018.out) | exact HB.out))))
        have n1_ := Aside0.mk (blk_below (g := gb55001) (o := .cells #[.int .i64 x55002000_1, .int .i64 x55002001_1, .int .i64 x55002002_1, .slice none 0 0] 27 (0, 0)) (by (with_reducible repeat (first | refine blk_drewN ?_ _ | refine blk_drew ?_ | refine blk_alloc ?_ _)); exact BK55001.out) hb)
        have n2_ := Aside0.mk (blk_below (g := gb55018) (o := .cells #[.int .i64 0, .int .i64 0, .int .i64 0, .slice none 0 0] 27 (0, 0)) (by (with_reducible repeat (first | refine blk_drewN ?_ _ | refine blk_drew ?_ | refine blk_alloc ?_ _)); exact BK55018.out) hb)
        have n3_ := Aside0.mk (below_step (by repeat (first | (with_reducible first | exact HB.out | apply below_alloc | apply pw_below_drewN | apply below_drew1 | refine below_set ?_ GE55001.out | refine below_set ?_ GE55018.out) | exact HB.out)) hb)
        clear BK55001
        clear BK55018
        clear HB
        have HO55017 := n0_
        have BK55001 := n1_
        have BK55018 := n2_
        have HB := n3_
        clear n0_ n1_ n2_ n3_
        (try clear hb)
        (try clear hb2)
        (try clear hk)
        (try clear hi)
        (try clear ho0)
        refine hK.out _ _ ⟨((HB.out.cell (World.block_lt_of_cell? w _ hw55010_0)).trans hw55010_0), ((HB.out.cell (World.block_lt_of_cell? w _ hw55010_1)).trans hw55010_1), ((HB.out.cell (World.block_lt_of_cell? w _ hw55010_2)).trans hw55010_2), ((HB.out.cell (World.block_lt_of_cell? w _ hw55010_3)).trans hw55010_3), ((HB.out.cell (World.block_lt_of_cell? w _ hw55011_0)).trans hw55011_0), ((HB.out.cell (World.block_lt_of_cell? w _ hw55011_1)).trans hw55011_1), ((HB.out.cell (World.block_lt_of_cell? w _ hw55011_2)).trans hw55011_2), ((HB.out.cell (World.block_lt_of_cell? w _ hw55011_3)).trans hw55011_3)⟩ (fun hHeld => ?_)
        clear hK K
        refine norm_ (a' := ?_) ?_ ?_
        rotate_left
        ·show Act.put _ (some 67) _ = _
         simp only [seval]
         rfl
        exact norm_ (by simp only [putAll, Act.put, List.setIfInBounds_toArray, List.set_cons_zero, List.set_cons_succ]) (hCont (v55016, gb55018) _ ⟨hHeld, (by (with_reducible repeat (first | apply Kd.R_alloc | apply Kd.R_drewN | apply Kd.R_drew)); exact HO55017.out), (by (with_reducible repeat (first | refine blk_drewN ?_ _ | refine blk_drew ?_ | refine blk_alloc ?_ _)); exact BK55001.out), (by (with_reducible repeat (first | refine blk_drewN ?_ _ | refine blk_drew ?_ | refine blk_alloc ?_ _)); exact BK55018.out), GW55018.out, GE55018.out, NB55001_55018.out, NB55018_55001.out, (by repeat (first | (with_reducible first | exact HB.out | apply below_alloc | apply pw_below_drewN | apply below_drew1 | refine below_set ?_ GE55001.out | refine below_set ?_ GE55018.out) | exact HB.out))⟩)
      rintro ⟨v55016, gb55018⟩ w32 ⟨hS_, h0_, h1_, h2_, h3_, h4_, h5_, h6_, h7_⟩
      have n0_ : Aside0 (Kd.R (Kd.int .i64) 3 w32 w.heap.size (fun _ => True) v55016 t55015) := ⟨h0_⟩
      have n1_ : Aside0 (w32.heap[gb55001]? = some (.cells #[.int .i64 x55002000_1, .int .i64 x55002001_1, .int .i64 x55002002_1, .slice none 0 0] 27 (0, 0))) := ⟨h1_⟩
      have n2_ : Aside0 (w32.heap[gb55018]? = some (.cells #[.int .i64 0, .int .i64 0, .int .i64 0, .slice none 0 0] 27 (0, 0))) := ⟨h2_⟩
      have n3_ : Aside0 (w.heap.size ≤ gb55018) := ⟨h3_⟩
      have n4_ : Aside0 (w.heap.size ≤ gb55018) := ⟨h4_⟩
      have n5_ : Aside0 (gb55001 ≠ gb55018) := ⟨h5_⟩
      have n6_ : Aside0 (gb55018 ≠ gb55001) := ⟨h6_⟩
      have n7_ : Aside0 (Below w.heap.size w w32) := ⟨h7_⟩
      clear BK55001
      clear HB
      clear h0_ h1_ h2_ h3_ h4_ h5_ h6_ h7_
      have HO55017 := n0_
      have BK55001 := n1_
      have BK55018 := n2_
      have GW55018 := n3_
      have GE55018 := n4_
      have NB55001_55018 := n5_
      have NB55018_55001 := n6_
      have HB := n7_
      clear n0_ n1_ n2_ n3_ n4_ n5_ n6_ n7_
      have hHeld : w32.cell? ad55010 = some (.int .i64 ((rd_T27 l0 0).f0)) ∧ w32.cell? ⟨ad55010.block, ad55010.off + 1, none⟩ = some (.int .i64 ((rd_T27 l0 0).f1)) ∧ w32.cell? ⟨ad55010.block, ad55010.off + 2, none⟩ = some (.int .i64 ((rd_T27 l0 0).f2)) ∧ w32.cell? ⟨ad55010.block, ad55010.off + 3, none⟩ = some (.slice A55010_3 ((rd_T27 l0 0).f3).length c55010_3) ∧ w32.cell? ad55010 = some (.int .i64 ((rd_T27 l0 0).f0)) ∧ w32.cell? ⟨ad55010.block, ad55010.off + 1, none⟩ = some (.int .i64 ((rd_T27 l0 0).f1)) ∧ w32.cell? ⟨ad55010.block, ad55010.off + 2, none⟩ = some (.int .i64 ((rd_T27 l0 0).f2)) ∧ w32.cell? ⟨ad55010.block, ad55010.off + 3, none⟩ = some (.slice A55010_3 ((rd_T27 l0 0).f3).length c55010_3) := hS_
      obtain ⟨Ao36, co36, eo36⟩ := Kd.R_slice HO55017.out
      (first | subst eo36 | (injection eo36 with f1_ f2_ f3_; have f4_ := f1_.symm; have f5_ := f3_.symm; clear f1_ f2_ f3_; subst f4_; subst f5_))
      refine norm_ (a' := ?_) ?_ ?_
      rotate_left
      ·simp only [putAll, Act.put, List.setIfInBounds_toArray, List.set_cons_zero, List.set_cons_succ]
       rfl
      refine one_ (i := 12) (N := none) #[true, true, true, true, true, true, true, true, true, true, true, true, true] rfl rfl (one_of HT_.out (by kernel_rfl)) (by decide) (fun K hK => ?_)
      have hs33 : w32.cell? ⟨gb55018, 0, none⟩ = some (.int .i64 0) := (blk_cell BK55018.out 0).trans rfl
      have hfs33 := blk_frozen BK55018.out 0
      have hns33_0 := NB55001_55018.out
      have hms33_0 := NB55018_55001.out
      have hs34 : w32.cell? ⟨gb55018, 1, none⟩ = some (.int .i64 0) := (blk_cell BK55018.out 1).trans rfl
      have hfs34 := blk_frozen BK55018.out 1
      have hns34_0 := NB55001_55018.out
      have hms34_0 := NB55018_55001.out
      have hs35 : w32.cell? ⟨gb55018, 2, none⟩ = some (.int .i64 0) := (blk_cell BK55018.out 2).trans rfl
      have hfs35 := blk_frozen BK55018.out 2
      have hns35_0 := NB55001_55018.out
      have hms35_0 := NB55018_55001.out
      have hs37 : w32.cell? ⟨gb55018, 3, none⟩ = some (.slice none 0 0) := (blk_cell BK55018.out 3).trans rfl
      have hfs37 := blk_frozen BK55018.out 3
      have hns37_0 := NB55001_55018.out
      have hms37_0 := NB55018_55001.out
      refine skip_ (w1 := ?_) (by rfl) rfl ?_ ?_
      rotate_left
      ·go_simp
       rfl
      refine hK.out _ _ ⟨((cell_far (p := ⟨gb55018, _, none⟩) (by first | exact Nat.ne_of_lt (Nat.lt_of_lt_of_le (by have := World.block_lt_of_cell? _ _ hw55010_0; first | rwa [add_block] at this | exact this) GW55018.out) | (rw [add_block]; exact Nat.ne_of_lt (Nat.lt_of_lt_of_le (by have := World.block_lt_of_cell? _ _ hw55010_0; first | rwa [add_block] at this | exact this) GW55018.out)) | (show (Addr.add _ _).block ≠ _; rw [add_block]; exact Nat.ne_of_lt (Nat.lt_of_lt_of_le (by have := World.block_lt_of_cell? _ _ hw55010_0; first | rwa [add_block] at this | exact this) GW55018.out)) | (dsimp only; exact Nat.ne_of_lt (Nat.lt_of_lt_of_le (by have := World.block_lt_of_cell? _ _ hw55010_0; first | rwa [add_block] at this | exact this) GW55018.out))) _).trans (((cell_far (p := ⟨gb55018, _, none⟩) (by first | exact Nat.ne_of_lt (Nat.lt_of_lt_of_le (by have := World.block_lt_of_cell? _ _ hw55010_0; first | rwa [add_block] at this | exact this) GW55018.out) | (rw [add_block]; exact Nat.ne_of_lt (Nat.lt_of_lt_of_le (by have := World.block_lt_of_cell? _ _ hw55010_0; first | rwa [add_block] at this | exact this) GW55018.out)) | (show (Addr.add _ _).block ≠ _; rw [add_block]; exact Nat.ne_of_lt (Nat.lt_of_lt_of_le (by have := World.block_lt_of_cell? _ _ hw55010_0; first | rwa [add_block] at this | exact this) GW55018.out)) | (dsimp only; exact Nat.ne_of_lt (Nat.lt_of_lt_of_le (by have := World.block_lt_of_cell? _ _ hw55010_0; first | rwa [add_block] at this | exact this) GW55018.out))) _).trans (((cell_far (p := ⟨gb55018, _, none⟩) (by first | exact Nat.ne_of_lt (Nat.lt_of_lt_of_le (by have := World.block_lt_of_cell? _ _ hw55010_0; first | rwa [add_block] at this | exact this) GW55018.out) | (rw [add_block]; exact Nat.ne_of_lt (Nat.lt_of_lt_of_le (by have := World.block_lt_of_cell? _ _ hw55010_0; first | rwa [add_block] at this | exact this) GW55018.out)) | (show (Addr.add _ _).block ≠ _; rw [add_block]; exact Nat.ne_of_lt (Nat.lt_of_lt_of_le (by have := World.block_lt_of_cell? _ _ hw55010_0; first | rwa [add_block] at this | exact this) GW55018.out)) | (dsimp only; exact Nat.ne_of_lt (Nat.lt_of_lt_of_le (by have := World.block_lt_of_cell? _ _ hw55010_0; first | rwa [add_block] at this | exact this) GW55018.out))) _).trans (((cell_far (p := ⟨gb55018, _, none⟩) (by first | exact Nat.ne_of_lt (Nat.lt_of_lt_of_le (by have := World.block_lt_of_cell? _ _ hw55010_0; first | rwa [add_block] at this | exact this) GW55018.out) | (rw [add_block]; exact Nat.ne_of_lt (Nat.lt_of_lt_of_le (by have := World.block_lt_of_cell? _ _ hw55010_0; first | rwa [add_block] at this | exact this) GW55018.out)) | (show (Addr.add _ _).block ≠ _; rw [add_block]; exact Nat.ne_of_lt (Nat.lt_of_lt_of_le (by have := World.block_lt_of_cell? _ _ hw55010_0; first | rwa [add_block] at this | exact this) GW55018.out)) | (dsimp only; exact Nat.ne_of_lt (Nat.lt_of_lt_of_le (by have := World.block_lt_of_cell? _ _ hw55010_0; first | rwa [add_block] at this | exact this) GW55018.out))) _).trans (hHeld.1)))))))), ((cell_far (p := ⟨gb55018, _, none⟩) (by first | exact Nat.ne_of_lt (Nat.lt_of_lt_of_le (by have := World.block_lt_of_cell? _ _ hw55010_1; first | rwa [add_block] at this | exact this) GW55018.out) | (rw [add_block]; exact Nat.ne_of_lt (Nat.lt_of_lt_of_le (by have := World.block_lt_of_cell? _ _ hw55010_1; first | rwa [add_block] at this | exact this) GW55018.out)) | (show (Addr.add _ _).block ≠ _; rw [add_block]; exact Nat.ne_of_lt (Nat.lt_of_lt_of_le (by have := World.block_lt_of_cell? _ _ hw55010_1; first | rwa [add_block] at this | exact this) GW55018.out)) | (dsimp only; exact Nat.ne_of_lt (Nat.lt_of_lt_of_le (by have := World.block_lt_of_cell? _ _ hw55010_1; first | rwa [add_block] at this | exact this) GW55018.out))) _).trans (((cell_far (p := ⟨gb55018, _, none⟩) (by first | exact Nat.ne_of_lt (Nat.lt_of_lt_of_le (by have := World.block_lt_of_cell? _ _ hw55010_1; first | rwa [add_block] at this | exact this) GW55018.out) | (rw [add_block]; exact Nat.ne_of_lt (Nat.lt_of_lt_of_le (by have := World.block_lt_of_cell? _ _ hw55010_1; first | rwa [add_block] at this | exact this) GW55018.out)) | (show (Addr.add _ _).block ≠ _; rw [add_block]; exact Nat.ne_of_lt (Nat.lt_of_lt_of_le (by have := World.block_lt_of_cell? _ _ hw55010_1; first | rwa [add_block] at this | exact this) GW55018.out)) | (dsimp only; exact Nat.ne_of_lt (Nat.lt_of_lt_of_le (by have := World.block_lt_of_cell? _ _ hw55010_1; first | rwa [add_block] at this | exact this) GW55018.out))) _).trans (((cell_far (p := ⟨gb55018, _, none⟩) (by first | exact Nat.ne_of_lt (Nat.lt_of_lt_of_le (by have := World.block_lt_of_cell? _ _ hw55010_1; first | rwa [add_block] at this | exact this) GW55018.out) | (rw [add_block]; exact Nat.ne_of_lt (Nat.lt_of_lt_of_le (by have := World.block_lt_of_cell? _ _ hw55010_1; first | rwa [add_block] at this | exact this) GW55018.out)) | (show (Addr.add _ _).block ≠ _; rw [add_block]; exact Nat.ne_of_lt (Nat.lt_of_lt_of_le (by have := World.block_lt_of_cell? _ _ hw55010_1; first | rwa [add_block] at this | exact this) GW55018.out)) | (dsimp only; exact Nat.ne_of_lt (Nat.lt_of_lt_of_le (by have := World.block_lt_of_cell? _ _ hw55010_1; first | rwa [add_block] at this | exact this) GW55018.out))) _).trans (((cell_far (p := ⟨gb55018, _, none⟩) (by first | exact Nat.ne_of_lt (Nat.lt_of_lt_of_le (by have := World.block_lt_of_cell? _ _ hw55010_1; first | rwa [add_block] at this | exact this) GW55018.out) | (rw [add_block]; exact Nat.ne_of_lt (Nat.lt_of_lt_of_le (by have := World.block_lt_of_cell? _ _ hw55010_1; first | rwa [add_block] at this | exact this) GW55018.out)) | (show (Addr.add _ _).block ≠ _; rw [add_block]; exact Nat.ne_of_lt (Nat.lt_of_lt_of_le (by have := World.block_lt_of_cell? _ _ hw55010_1; first | rwa [add_block] at this | exact this) GW55018.out)) | (dsimp only; exact Nat.ne_of_lt (Nat.lt_of_lt_of_le (by have := World.block_lt_of_cell? _ _ hw55010_1; first | rwa [add_block] at this | exact this) GW55018.out))) _).trans (hHeld.2.1)))))))), ((cell_far (p := ⟨gb55018, _, none⟩) (by first | exact Nat.ne_of_lt (Nat.lt_of_lt_of_le (by have := World.block_lt_of_cell? _ _ hw55010_2; first | rwa [add_block] at this | exact this) GW55018.out) | (rw [add_block]; exact Nat.ne_of_lt (Nat.lt_of_lt_of_le (by have := World.block_lt_of_cell? _ _ hw55010_2; first | rwa [add_block] at this | exact this) GW55018.out)) | (show (Addr.add _ _).block ≠ _; rw [add_block]; exact Nat.ne_of_lt (Nat.lt_of_lt_of_le (by have := World.block_lt_of_cell? _ _ hw55010_2; first | rwa [add_block] at this | exact this) GW55018.out)) | (dsimp only; exact Nat.ne_of_lt (Nat.lt_of_lt_of_le (by have := World.block_lt_of_cell? _ _ hw55010_2; first | rwa [add_block] at this | exact this) GW55018.out))) _).trans (((cell_far (p := ⟨gb55018, _, none⟩) (by first | exact Nat.ne_of_lt (Nat.lt_of_lt_of_le (by have := World.block_lt_of_cell? _ _ hw55010_2; first | rwa [add_block] at this | exact this) GW55018.out) | (rw [add_block]; exact Nat.ne_of_lt (Nat.lt_of_lt_of_le (by have := World.block_lt_of_cell? _ _ hw55010_2; first | rwa [add_block] at this | exact this) GW55018.out)) | (show (Addr.add _ _).block ≠ _; rw [add_block]; exact Nat.ne_of_lt (Nat.lt_of_lt_of_le (by have := World.block_lt_of_cell? _ _ hw55010_2; first | rwa [add_block] at this | exact this) GW55018.out)) | (dsimp only; exact Nat.ne_of_lt (Nat.lt_of_lt_of_le (by have := World.block_lt_of_cell? _ _ hw55010_2; first | rwa [add_block] at this | exact this) GW55018.out))) _).trans (((cell_far (p := ⟨gb55018, _, none⟩) (by first | exact Nat.ne_of_lt (Nat.lt_of_lt_of_le (by have := World.block_lt_of_cell? _ _ hw55010_2; first | rwa [add_block] at this | exact this) GW55018.out) | (rw [add_block]; exact Nat.ne_of_lt (Nat.lt_of_lt_of_le (by have := World.block_lt_of_cell? _ _ hw55010_2; first | rwa [add_block] at this | exact this) GW55018.out)) | (show (Addr.add _ _).block ≠ _; rw [add_block]; exact Nat.ne_of_lt (Nat.lt_of_lt_of_le (by have := World.block_lt_of_cell? _ _ hw55010_2; first | rwa [add_block] at this | exact this) GW55018.out)) | (dsimp only; exact Nat.ne_of_lt (Nat.lt_of_lt_of_le (by have := World.block_lt_of_cell? _ _ hw55010_2; first | rwa [add_block] at this | exact this) GW55018.out))) _).trans (((cell_far (p := ⟨gb55018, _, none⟩) (by first | exact Nat.ne_of_lt (Nat.lt_of_lt_of_le (by have := World.block_lt_of_cell? _ _ hw55010_2; first | rwa [add_block] at this | exact this) GW55018.out) | (rw [add_block]; exact Nat.ne_of_lt (Nat.lt_of_lt_of_le (by have := World.block_lt_of_cell? _ _ hw55010_2; first | rwa [add_block] at this | exact this) GW55018.out)) | (show (Addr.add _ _).block ≠ _; rw [add_block]; exact Nat.ne_of_lt (Nat.lt_of_lt_of_le (by have := World.block_lt_of_cell? _ _ hw55010_2; first | rwa [add_block] at this | exact this) GW55018.out)) | (dsimp only; exact Nat.ne_of_lt (Nat.lt_of_lt_of_le (by have := World.block_lt_of_cell? _ _ hw55010_2; first | rwa [add_block] at this | exact this) GW55018.out))) _).trans (hHeld.2.2.1)))))))), ((cell_far (p := ⟨gb55018, _, none⟩) (by first | exact Nat.ne_of_lt (Nat.lt_of_lt_of_le (by have := World.block_lt_of_cell? _ _ hw55010_3; first | rwa [add_block] at this | exact this) GW55018.out) | (rw [add_block]; exact Nat.ne_of_lt (Nat.lt_of_lt_of_le (by have := World.block_lt_of_cell? _ _ hw55010_3; first | rwa [add_block] at this | exact this) GW55018.out)) | (show (Addr.add _ _).block ≠ _; rw [add_block]; exact Nat.ne_of_lt (Nat.lt_of_lt_of_le (by have := World.block_lt_of_cell? _ _ hw55010_3; first | rwa [add_block] at this | exact this) GW55018.out)) | (dsimp only; exact Nat.ne_of_lt (Nat.lt_of_lt_of_le (by have := World.block_lt_of_cell? _ _ hw55010_3; first | rwa [add_block] at this | exact this) GW55018.out))) _).trans (((cell_far (p := ⟨gb55018, _, none⟩) (by first | exact Nat.ne_of_lt (Nat.lt_of_lt_of_le (by have := World.block_lt_of_cell? _ _ hw55010_3; first | rwa [add_block] at this | exact this) GW55018.out) | (rw [add_block]; exact Nat.ne_of_lt (Nat.lt_of_lt_of_le (by have := World.block_lt_of_cell? _ _ hw55010_3; first | rwa [add_block] at this | exact this) GW55018.out)) | (show (Addr.add _ _).block ≠ _; rw [add_block]; exact Nat.ne_of_lt (Nat.lt_of_lt_of_le (by have := World.block_lt_of_cell? _ _ hw55010_3; first | rwa [add_block] at this | exact this) GW55018.out)) | (dsimp only; exact Nat.ne_of_lt (Nat.lt_of_lt_of_le (by have := World.block_lt_of_cell? _ _ hw55010_3; first | rwa [add_block] at this | exact this) GW55018.out))) _).trans (((cell_far (p := ⟨gb55018, _, none⟩) (by first | exact Nat.ne_of_lt (Nat.lt_of_lt_of_le (by have := World.block_lt_of_cell? _ _ hw55010_3; first | rwa [add_block] at this | exact this) GW55018.out) | (rw [add_block]; exact Nat.ne_of_lt (Nat.lt_of_lt_of_le (by have := World.block_lt_of_cell? _ _ hw55010_3; first | rwa [add_block] at this | exact this) GW55018.out)) | (show (Addr.add _ _).block ≠ _; rw [add_block]; exact Nat.ne_of_lt (Nat.lt_of_lt_of_le (by have := World.block_lt_of_cell? _ _ hw55010_3; first | rwa [add_block] at this | exact this) GW55018.out)) | (dsimp only; exact Nat.ne_of_lt (Nat.lt_of_lt_of_le (by have := World.block_lt_of_cell? _ _ hw55010_3; first | rwa [add_block] at this | exact this) GW55018.out))) _).trans (((cell_far (p := ⟨gb55018, _, none⟩) (by first | exact Nat.ne_of_lt (Nat.lt_of_lt_of_le (by have := World.block_lt_of_cell? _ _ hw55010_3; first | rwa [add_block] at this | exact this) GW55018.out) | (rw [add_block]; exact Nat.ne_of_lt (Nat.lt_of_lt_of_le (by have := World.block_lt_of_cell? _ _ hw55010_3; first | rwa [add_block] at this | exact this) GW55018.out)) | (show (Addr.add _ _).block ≠ _; rw [add_block]; exact Nat.ne_of_lt (Nat.lt_of_lt_of_le (by have := World.block_lt_of_cell? _ _ hw55010_3; first | rwa [add_block] at this | exact this) GW55018.out)) | (dsimp only; exact Nat.ne_of_lt (Nat.lt_of_lt_of_le (by have := World.block_lt_of_cell? _ _ hw55010_3; first | rwa [add_block] at this | exact this) GW55018.out))) _).trans (hHeld.2.2.2.1)))))))), ((cell_far (p := ⟨gb55018, _, none⟩) (by first | exact Nat.ne_of_lt (Nat.lt_of_lt_of_le (by have := World.block_lt_of_cell? _ _ hw55011_0; first | rwa [add_block] at this | exact this) GW55018.out) | (rw [add_block]; exact Nat.ne_of_lt (Nat.lt_of_lt_of_le (by have := World.block_lt_of_cell? _ _ hw55011_0; first | rwa [add_block] at this | exact this) GW55018.out)) | (show (Addr.add _ _).block ≠ _; rw [add_block]; exact Nat.ne_of_lt (Nat.lt_of_lt_of_le (by have := World.block_lt_of_cell? _ _ hw55011_0; first | rwa [add_block] at this | exact this) GW55018.out)) | (dsimp only; exact Nat.ne_of_lt (Nat.lt_of_lt_of_le (by have := World.block_lt_of_cell? _ _ hw55011_0; first | rwa [add_block] at this | exact this) GW55018.out))) _).trans (((cell_far (p := ⟨gb55018, _, none⟩) (by first | exact Nat.ne_of_lt (Nat.lt_of_lt_of_le (by have := World.block_lt_of_cell? _ _ hw55011_0; first | rwa [add_block] at this | exact this) GW55018.out) | (rw [add_block]; exact Nat.ne_of_lt (Nat.lt_of_lt_of_le (by have := World.block_lt_of_cell? _ _ hw55011_0; first | rwa [add_block] at this | exact this) GW55018.out)) | (show (Addr.add _ _).block ≠ _; rw [add_block]; exact Nat.ne_of_lt (Nat.lt_of_lt_of_le (by have := World.block_lt_of_cell? _ _ hw55011_0; first | rwa [add_block] at this | exact this) GW55018.out)) | (dsimp only; exact Nat.ne_of_lt (Nat.lt_of_lt_of_le (by have := World.block_lt_of_cell? _ _ hw55011_0; first | rwa [add_block] at this | exact this) GW55018.out))) _).trans (((cell_far (p := ⟨gb55018, _, none⟩) (by first | exact Nat.ne_of_lt (Nat.lt_of_lt_of_le (by have := World.block_lt_of_cell? _ _ hw55011_0; first | rwa [add_block] at this | exact this) GW55018.out) | (rw [add_block]; exact Nat.ne_of_lt (Nat.lt_of_lt_of_le (by have := World.block_lt_of_cell? _ _ hw55011_0; first | rwa [add_block] at this | exact this) GW55018.out)) | (show (Addr.add _ _).block ≠ _; rw [add_block]; exact Nat.ne_of_lt (Nat.lt_of_lt_of_le (by have := World.block_lt_of_cell? _ _ hw55011_0; first | rwa [add_block] at this | exact this) GW55018.out)) | (dsimp only; exact Nat.ne_of_lt (Nat.lt_of_lt_of_le (by have := World.block_lt_of_cell? _ _ hw55011_0; first | rwa [add_block] at this | exact this) GW55018.out))) _).trans (((cell_far (p := ⟨gb55018, _, none⟩) (by first | exact Nat.ne_of_lt (Nat.lt_of_lt_of_le (by have := World.block_lt_of_cell? _ _ hw55011_0; first | rwa [add_block] at this | exact this) GW55018.out) | (rw [add_block]; exact Nat.ne_of_lt (Nat.lt_of_lt_of_le (by have := World.block_lt_of_cell? _ _ hw55011_0; first | rwa [add_block] at this | exact this) GW55018.out)) | (show (Addr.add _ _).block ≠ _; rw [add_block]; exact Nat.ne_of_lt (Nat.lt_of_lt_of_le (by have := World.block_lt_of_cell? _ _ hw55011_0; first | rwa [add_block] at this | exact this) GW55018.out)) | (dsimp only; exact Nat.ne_of_lt (Nat.lt_of_lt_of_le (by have := World.block_lt_of_cell? _ _ hw55011_0; first | rwa [add_block] at this | exact this) GW55018.out))) _).trans (hHeld.2.2.2.2.1)))))))), ((cell_far (p := ⟨gb55018, _, none⟩) (by first | exact Nat.ne_of_lt (Nat.lt_of_lt_of_le (by have := World.block_lt_of_cell? _ _ hw55011_1; first | rwa [add_block] at this | exact this) GW55018.out) | (rw [add_block]; exact Nat.ne_of_lt (Nat.lt_of_lt_of_le (by have := World.block_lt_of_cell? _ _ hw55011_1; first | rwa [add_block] at this | exact this) GW55018.out)) | (show (Addr.add _ _).block ≠ _; rw [add_block]; exact Nat.ne_of_lt (Nat.lt_of_lt_of_le (by have := World.block_lt_of_cell? _ _ hw55011_1; first | rwa [add_block] at this | exact this) GW55018.out)) | (dsimp only; exact Nat.ne_of_lt (Nat.lt_of_lt_of_le (by have := World.block_lt_of_cell? _ _ hw55011_1; first | rwa [add_block] at this | exact this) GW55018.out))) _).trans (((cell_far (p := ⟨gb55018, _, none⟩) (by first | exact Nat.ne_of_lt (Nat.lt_of_lt_of_le (by have := World.block_lt_of_cell? _ _ hw55011_1; first | rwa [add_block] at this | exact this) GW55018.out) | (rw [add_block]; exact Nat.ne_of_lt (Nat.lt_of_lt_of_le (by have := World.block_lt_of_cell? _ _ hw55011_1; first | rwa [add_block] at this | exact this) GW55018.out)) | (show (Addr.add _ _).block ≠ _; rw [add_block]; exact Nat.ne_of_lt (Nat.lt_of_lt_of_le (by have := World.block_lt_of_cell? _ _ hw55011_1; first | rwa [add_block] at this | exact this) GW55018.out)) | (dsimp only; exact Nat.ne_of_lt (Nat.lt_of_lt_of_le (by have := World.block_lt_of_cell? _ _ hw55011_1; first | rwa [add_block] at this | exact this) GW55018.out))) _).trans (((cell_far (p := ⟨gb55018, _, none⟩) (by first | exact Nat.ne_of_lt (Nat.lt_of_lt_of_le (by have := World.block_lt_of_cell? _ _ hw55011_1; first | rwa [add_block] at this | exact this) GW55018.out) | (rw [add_block]; exact Nat.ne_of_lt (Nat.lt_of_lt_of_le (by have := World.block_lt_of_cell? _ _ hw55011_1; first | rwa [add_block] at this | exact this) GW55018.out)) | (show (Addr.add _ _).block ≠ _; rw [add_block]; exact Nat.ne_of_lt (Nat.lt_of_lt_of_le (by have := World.block_lt_of_cell? _ _ hw55011_1; first | rwa [add_block] at this | exact this) GW55018.out)) | (dsimp only; exact Nat.ne_of_lt (Nat.lt_of_lt_of_le (by have := World.block_lt_of_cell? _ _ hw55011_1; first | rwa [add_block] at this | exact this) GW55018.out))) _).trans (((cell_far (p := ⟨gb55018, _, none⟩) (by first | exact Nat.ne_of_lt (Nat.lt_of_lt_of_le (by have := World.block_lt_of_cell? _ _ hw55011_1; first | rwa [add_block] at this | exact this) GW55018.out) | (rw [add_block]; exact Nat.ne_of_lt (Nat.lt_of_lt_of_le (by have := World.block_lt_of_cell? _ _ hw55011_1; first | rwa [add_block] at this | exact this) GW55018.out)) | (show (Addr.add _ _).block ≠ _; rw [add_block]; exact Nat.ne_of_lt (Nat.lt_of_lt_of_le (by have := World.block_lt_of_cell? _ _ hw55011_1; first | rwa [add_block] at this | exact this) GW55018.out)) | (dsimp only; exact Nat.ne_of_lt (Nat.lt_of_lt_of_le (by have := World.block_lt_of_cell? _ _ hw55011_1; first | rwa [add_block] at this | exact this) GW55018.out))) _).trans (hHeld.2.2.2.2.2.1)))))))), ((cell_far (p := ⟨gb55018, _, none⟩) (by first | exact Nat.ne_of_lt (Nat.lt_of_lt_of_le (by have := World.block_lt_of_cell? _ _ hw55011_2; first | rwa [add_block] at this | exact this) GW55018.out) | (rw [add_block]; exact Nat.ne_of_lt (Nat.lt_of_lt_of_le (by have := World.block_lt_of_cell? _ _ hw55011_2; first | rwa [add_block] at this | exact this) GW55018.out)) | (show (Addr.add _ _).block ≠ _; rw [add_block]; exact Nat.ne_of_lt (Nat.lt_of_lt_of_le (by have := World.block_lt_of_cell? _ _ hw55011_2; first | rwa [add_block] at this | exact this) GW55018.out)) | (dsimp only; exact Nat.ne_of_lt (Nat.lt_of_lt_of_le (by have := World.block_lt_of_cell? _ _ hw55011_2; first | rwa [add_block] at this | exact this) GW55018.out))) _).trans (((cell_far (p := ⟨gb55018, _, none⟩) (by first | exact Nat.ne_of_lt (Nat.lt_of_lt_of_le (by have := World.block_lt_of_cell? _ _ hw55011_2; first | rwa [add_block] at this | exact this) GW55018.out) | (rw [add_block]; exact Nat.ne_of_lt (Nat.lt_of_lt_of_le (by have := World.block_lt_of_cell? _ _ hw55011_2; first | rwa [add_block] at this | exact this) GW55018.out)) | (show (Addr.add _ _).block ≠ _; rw [add_block]; exact Nat.ne_of_lt (Nat.lt_of_lt_of_le (by have := World.block_lt_of_cell? _ _ hw55011_2; first | rwa [add_block] at this | exact this) GW55018.out)) | (dsimp only; exact Nat.ne_of_lt (Nat.lt_of_lt_of_le (by have := World.block_lt_of_cell? _ _ hw55011_2; first | rwa [add_block] at this | exact this) GW55018.out))) _).trans (((cell_far (p := ⟨gb55018, _, none⟩) (by first | exact Nat.ne_of_lt (Nat.lt_of_lt_of_le (by have := World.block_lt_of_cell? _ _ hw55011_2; first | rwa [add_block] at this | exact this) GW55018.out) | (rw [add_block]; exact Nat.ne_of_lt (Nat.lt_of_lt_of_le (by have := World.block_lt_of_cell? _ _ hw55011_2; first | rwa [add_block] at this | exact this) GW55018.out)) | (show (Addr.add _ _).block ≠ _; rw [add_block]; exact Nat.ne_of_lt (Nat.lt_of_lt_of_le (by have := World.block_lt_of_cell? _ _ hw55011_2; first | rwa [add_block] at this | exact this) GW55018.out)) | (dsimp only; exact Nat.ne_of_lt (Nat.lt_of_lt_of_le (by have := World.block_lt_of_cell? _ _ hw55011_2; first | rwa [add_block] at this | exact this) GW55018.out))) _).trans (((cell_far (p := ⟨gb55018, _, none⟩) (by first | exact Nat.ne_of_lt (Nat.lt_of_lt_of_le (by have := World.block_lt_of_cell? _ _ hw55011_2; first | rwa [add_block] at this | exact this) GW55018.out) | (rw [add_block]; exact Nat.ne_of_lt (Nat.lt_of_lt_of_le (by have := World.block_lt_of_cell? _ _ hw55011_2; first | rwa [add_block] at this | exact this) GW55018.out)) | (show (Addr.add _ _).block ≠ _; rw [add_block]; exact Nat.ne_of_lt (Nat.lt_of_lt_of_le (by have := World.block_lt_of_cell? _ _ hw55011_2; first | rwa [add_block] at this | exact this) GW55018.out)) | (dsimp only; exact Nat.ne_of_lt (Nat.lt_of_lt_of_le (by have := World.block_lt_of_cell? _ _ hw55011_2; first | rwa [add_block] at this | exact this) GW55018.out))) _).trans (hHeld.2.2.2.2.2.2.1)))))))), ((cell_far (p := ⟨gb55018, _, none⟩) (by first | exact Nat.ne_of_lt (Nat.lt_of_lt_of_le (by have := World.block_lt_of_cell? _ _ hw55011_3; first | rwa [add_block] at this | exact this) GW55018.out) | (rw [add_block]; exact Nat.ne_of_lt (Nat.lt_of_lt_of_le (by have := World.block_lt_of_cell? _ _ hw55011_3; first | rwa [add_block] at this | exact this) GW55018.out)) | (show (Addr.add _ _).block ≠ _; rw [add_block]; exact Nat.ne_of_lt (Nat.lt_of_lt_of_le (by have := World.block_lt_of_cell? _ _ hw55011_3; first | rwa [add_block] at this | exact this) GW55018.out)) | (dsimp only; exact Nat.ne_of_lt (Nat.lt_of_lt_of_le (by have := World.block_lt_of_cell? _ _ hw55011_3; first | rwa [add_block] at this | exact this) GW55018.out))) _).trans (((cell_far (p := ⟨gb55018, _, none⟩) (by first | exact Nat.ne_of_lt (Nat.lt_of_lt_of_le (by have := World.block_lt_of_cell? _ _ hw55011_3; first | rwa [add_block] at this | exact this) GW55018.out) | (rw [add_block]; exact Nat.ne_of_lt (Nat.lt_of_lt_of_le (by have := World.block_lt_of_cell? _ _ hw55011_3; first | rwa [add_block] at this | exact this) GW55018.out)) | (show (Addr.add _ _).block ≠ _; rw [add_block]; exact Nat.ne_of_lt (Nat.lt_of_lt_of_le (by have := World.block_lt_of_cell? _ _ hw55011_3; first | rwa [add_block] at this | exact this) GW55018.out)) | (dsimp only; exact Nat.ne_of_lt (Nat.lt_of_lt_of_le (by have := World.block_lt_of_cell? _ _ hw55011_3; first | rwa [add_block] at this | exact this) GW55018.out))) _).trans (((cell_far (p := ⟨gb55018, _, none⟩) (by first | exact Nat.ne_of_lt (Nat.lt_of_lt_of_le (by have := World.block_lt_of_cell? _ _ hw55011_3; first | rwa [add_block] at this | exact this) GW55018.out) | (rw [add_block]; exact Nat.ne_of_lt (Nat.lt_of_lt_of_le (by have := World.block_lt_of_cell? _ _ hw55011_3; first | rwa [add_block] at this | exact this) GW55018.out)) | (show (Addr.add _ _).block ≠ _; rw [add_block]; exact Nat.ne_of_lt (Nat.lt_of_lt_of_le (by have := World.block_lt_of_cell? _ _ hw55011_3; first | rwa [add_block] at this | exact this) GW55018.out)) | (dsimp only; exact Nat.ne_of_lt (Nat.lt_of_lt_of_le (by have := World.block_lt_of_cell? _ _ hw55011_3; first | rwa [add_block] at this | exact this) GW55018.out))) _).trans (((cell_far (p := ⟨gb55018, _, none⟩) (by first | exact Nat.ne_of_lt (Nat.lt_of_lt_of_le (by have := World.block_lt_of_cell? _ _ hw55011_3; first | rwa [add_block] at this | exact this) GW55018.out) | (rw [add_block]; exact Nat.ne_of_lt (Nat.lt_of_lt_of_le (by have := World.block_lt_of_cell? _ _ hw55011_3; first | rwa [add_block] at this | exact this) GW55018.out)) | (show (Addr.add _ _).block ≠ _; rw [add_block]; exact Nat.ne_of_lt (Nat.lt_of_lt_of_le (by have := World.block_lt_of_cell? _ _ hw55011_3; first | rwa [add_block] at this | exact this) GW55018.out)) | (dsimp only; exact Nat.ne_of_lt (Nat.lt_of_lt_of_le (by have := World.block_lt_of_cell? _ _ hw55011_3; first | rwa [add_block] at this | exact this) GW55018.out))) _).trans (hHeld.2.2.2.2.2.2.2))))))))⟩ (fun hHeld => ?_)
      clear hK K
      refine done_ (done_of HT_.out (by kernel_rfl)) ?_
      try go_wp2
      go_loopg [6] k1 (fun kq v6 w' => ∃ (x6_2 : Int) (x55019003_2 : List Int) (u55019003 : Value), v6 = .int .i64 x6_2 ∧ Aside0 (spec_MergePlanes.l1 kq l0 x6_2 t55012 t55013 t55014 x55019003_2 = some (r1, r2, r3, r4, r5)) ∧ Aside0 (kq ≤ k1) ∧ Aside0 (Kd.R (Kd.int .i64) 3 w' w.heap.size (fun _ => True) u55019003 x55019003_2) ∧ Aside0 (w'.heap[gb55001]? = some (.cells #[.int .i64 x55002000_1, .int .i64 x55002001_1, .int .i64 x55002002_1, (.slice none 0 0)] 27 (0, 0))) ∧ Aside0 (w'.heap[gb55018]? = some (.cells #[.int .i64 t55012, .int .i64 t55013, .int .i64 t55014, u55019003] 27 (0, 0))) ∧ Aside0 (Below w.heap.size w w'))
      case atStart => exact ⟨(0), (t55015), (.slice Ao36 t55015.length co36), (by first | rfl | (simp; done) | (simp [*]; done)), H', ⟨Nat.le_refl _⟩, ⟨by (with_reducible repeat (first | apply Kd.R_alloc | apply Kd.R_drewN | apply Kd.R_drew)); exact Kd.R_mono (Kd.R_far (p := ⟨gb55018, 3, none⟩) (Kd.R_far (p := ⟨gb55018, 2, none⟩) (Kd.R_far (p := ⟨gb55018, 1, none⟩) (Kd.R_far (p := ⟨gb55018, 0, none⟩) (Kd.R_types HO55017.out BK55018.out (by decide)) (fun _ hk => hk.2) (.int .i64 t55012)) (fun _ hk => hk.2) (.int .i64 t55013)) (fun _ hk => hk.2) (.int .i64 t55014)) (fun _ hk => hk.2) (.slice Ao36 t55015.length co36)) (fun _ hk => trivial)⟩, ⟨by (with_reducible repeat (first | refine blk_drewN ?_ _ | refine blk_drew ?_ | refine blk_alloc ?_ _)); refine blk_far ?_ NB55001_55018.out _; (with_reducible repeat (first | refine blk_drewN ?_ _ | refine blk_drew ?_ | refine blk_alloc ?_ _)); refine blk_far ?_ NB55001_55018.out _; (with_reducible repeat (first | refine blk_drewN ?_ _ | refine blk_drew ?_ | refine blk_alloc ?_ _)); refine blk_far ?_ NB55001_55018.out _; (with_reducible repeat (first | refine blk_drewN ?_ _ | refine blk_drew ?_ | refine blk_alloc ?_ _)); refine blk_far ?_ NB55001_55018.out _; (with_reducible repeat (first | refine blk_drewN ?_ _ | refine blk_drew ?_ | refine blk_alloc ?_ _)); exact BK55001.out⟩, ⟨by (with_reducible repeat (first | refine blk_drewN ?_ _ | refine blk_drew ?_ | refine blk_alloc ?_ _)); refine blk_put (cs := #[.int .i64 t55012, .int .i64 t55013, .int .i64 t55014, .slice none 0 0]) ?_ 3 _ rfl; (with_reducible repeat (first | refine blk_drewN ?_ _ | refine blk_drew ?_ | refine blk_alloc ?_ _)); refine blk_put (cs := #[.int .i64 t55012, .int .i64 t55013, .int .i64 0, .slice none 0 0]) ?_ 2 _ rfl; (with_reducible repeat (first | refine blk_drewN ?_ _ | refine blk_drew ?_ | refine blk_alloc ?_ _)); refine blk_put (cs := #[.int .i64 t55012, .int .i64 0, .int .i64 0, .slice none 0 0]) ?_ 1 _ rfl; (with_reducible repeat (first | refine blk_drewN ?_ _ | refine blk_drew ?_ | refine blk_alloc ?_ _)); refine blk_put (cs := #[.int .i64 0, .int .i64 0, .int .i64 0, .slice none 0 0]) ?_ 0 _ rfl; (with_reducible repeat (first | refine blk_drewN ?_ _ | refine blk_drew ?_ | refine blk_alloc ?_ _)); exact BK55018.out⟩, ⟨by repeat (first | (with_reducible first | exact HB.out | apply below_alloc | apply pw_below_drewN | apply below_drew1 | refine below_set ?_ GE55001.out | refine below_set ?_ GE55018.out) | exact HB.out)⟩⟩
      case round =>
       clear H'
       try clear c1
       try clear c2
       try clear p2
       try clear c5
       try clear c5b0
       try clear p5
       try clear q5
       try clear hx5
       try clear qi5
       try clear c6
       try clear c8
       try clear c11
       try clear c27
       try clear c27b0
       try clear c27b1
       try clear hcz26_0
       try clear hcz26_1
       try clear hcz26_2
       try clear hcz26_3
       try clear hfz26_0
       try clear hfz26_1
       try clear hfz26_2
       try clear hfz26_3
       try clear hx55010_0
       try clear hx55010_1
       try clear hx55010_2
       try clear hx55010_3
       try clear hx55011_0
       try clear hx55011_1
       try clear hx55011_2
       try clear hx55011_3
       try clear p55010
       try clear p55011
       try clear q55010
       try clear q55011
       obtain ⟨x6_2, x55019003_2, u55019003, rfl, HA, HK2, HO_55019003, BK55001, BK55018, HB⟩ := hrel
       cases gk with
       | zero => exact absurd HA.out (by simp [spec_MergePlanes.l1])
       | succ k2 =>
        have H := HA.out
        clear HA
        simp only [spec_MergePlanes.l1] at H
        by_cases c38 : x6_2 < (x55019003_2.length : Int)
        ·rw [if_pos c38] at H
         have c38b0 : decide (x6_2 < (x55019003_2.length : Int)) = true := decide_eq_true c38
         clear c38
         by_cases c39 : (l0.length : Int) = 0
         ·rw [if_pos c39] at H
          exact absurd H (by simp)
         ·rw [if_neg c39] at H
          have c39b0 : ((l0.length : Int) == 0) = false := beq_eq_false_iff_ne.mpr c39
          have c39b1 : ((l0.length : Int) != 0) = true := bne_iff_ne.mpr c39
          have c39b2 : ¬ (l0 = []) := fun h_ => c39 (by rw [h_]; rfl)
          obtain ⟨ji40, hji40⟩ : ∃ j_ : Int, (Int.tmod x6_2 (l0.length : Int)) = j_ := ⟨_, rfl⟩
          replace H : (if 0 ≤ (ji40) then (if (ji40) < (l0.length : Int) then (if 0 ≤ (wrap64 (Int.tdiv x6_2 (l0.length : Int))) then (if (wrap64 (Int.tdiv x6_2 (l0.length : Int))) < (((rd_T27 l0 (ji40)).f3).length : Int) then (if 0 ≤ x6_2 then (spec_MergePlanes.l1 k2 l0 (wrap64 (x6_2 + 1)) t55012 t55013 t55014 (x55019003_2.set (x6_2 : Int).toNat (rd ((rd_T27 l0 (ji40)).f3) (wrap64 (Int.tdiv x6_2 (l0.length : Int)))))) else (none)) else (none)) else (none)) else (none)) else (none)) = some (r1, r2, r3, r4, r5) := by first | (rw [hji40] at H; exact H) | (simp only [hji40] at H ⊢; exact H)
          by_cases c41 : 0 ≤ (ji40)
          ·rw [if_pos c41] at H
           have c41b0 : decide (0 ≤ (ji40)) = true := decide_eq_true c41
           clear c41
           by_cases c42 : (ji40) < (l0.length : Int)
           ·rw [if_pos c42] at H
            have c42b0 : decide ((ji40) < (l0.length : Int)) = true := decide_eq_true c42
            clear c42
            obtain ⟨ji43, hji43⟩ : ∃ j_ : Int, (wrap64 (Int.tdiv x6_2 (l0.length : Int))) = j_ := ⟨_, rfl⟩
            replace H : (if 0 ≤ (ji43) then (if (ji43) < (((rd_T27 l0 (ji40)).f3).length : Int) then (if 0 ≤ x6_2 then (spec_MergePlanes.l1 k2 l0 (wrap64 (x6_2 + 1)) t55012 t55013 t55014 (x55019003_2.set (x6_2 : Int).toNat (rd ((rd_T27 l0 (ji40)).f3) (ji43)))) else (none)) else (none)) else (none)) = some (r1, r2, r3, r4, r5) := by first | (rw [hji43] at H; exact H) | (simp only [hji43] at H ⊢; exact H)
            have hji43w : (IntKind.i64.wrap (Int.tdiv x6_2 (l0.length : Int))) = ji43 := (i64_w _).trans hji43
            by_cases c44 : 0 ≤ (ji43)
            ·rw [if_pos c44] at H
             have c44b0 : decide (0 ≤ (ji43)) = true := decide_eq_true c44
             clear c44
             by_cases c45 : (ji43) < (((rd_T27 l0 (ji40)).f3).length : Int)
             ·rw [if_pos c45] at H
              have c45b0 : decide ((ji43) < (((rd_T27 l0 (ji40)).f3).length : Int)) = true := decide_eq_true c45
              clear c45
              by_cases c46 : 0 ≤ x6_2
              ·rw [if_pos c46] at H
               have c46b0 : decide (0 ≤ x6_2) = true := decide_eq_true c46
               clear c46
               obtain ⟨y55021, hy55021⟩ : ∃ y_ : List Int, y_ = (x55019003_2.set (x6_2 : Int).toNat (rd ((rd_T27 l0 (ji40)).f3) (ji43))) := ⟨_, rfl⟩
               replace H : (spec_MergePlanes.l1 k2 l0 (wrap64 (x6_2 + 1)) t55012 t55013 t55014 y55021) = some (r1, r2, r3, r4, r5) := by first | (rw [hy55021]; with_reducible exact H) | (have H2_ := (Option.bind_some _ _).symm.trans H; rw [hy55021]; with_reducible exact H2_) | (have H2_ := (Option.bind_some _ _).symm.trans H; with_reducible exact H2_) | with_reducible exact H | (rw [hy55021]; exact H) | exact H
               have Ny55021 := Aside0.mk hy55021
               clear hy55021
               have H' := Aside0.mk H
               clear H
               have hnb48 := NB55018_55001.out
               have hnc48 := NB55001_55018.out
               have hcz49_0 : wr.cell? ⟨gb55018, 0, none⟩ = some (.int .i64 t55012) := (blk_cell BK55018.out 0).trans rfl
               have hcz49_1 : wr.cell? ⟨gb55018, 1, none⟩ = some (.int .i64 t55013) := (blk_cell BK55018.out 1).trans rfl
               have hcz49_2 : wr.cell? ⟨gb55018, 2, none⟩ = some (.int .i64 t55014) := (blk_cell BK55018.out 2).trans rfl
               have hcz49_3 : wr.cell? ⟨gb55018, 3, none⟩ = some (u55019003) := (blk_cell BK55018.out 3).trans rfl
               have hfz49_0 := blk_frozen BK55018.out 0
               have hfz49_1 := blk_frozen BK55018.out 1
               have hfz49_2 := blk_frozen BK55018.out 2
               have hfz49_3 := blk_frozen BK55018.out 3
               obtain ⟨Ao50, co50, eo50⟩ := Kd.R_slice HO_55019003.out
               subst eo50
               try go_wp2
               have n0_ := Aside0.mk (Kd.R_drew HO_55019003.out)
               have n1_ := Aside0.mk (blk_drew BK55001.out)
               have n2_ := Aside0.mk (blk_drew BK55018.out)
               have n3_ := Aside0.mk (below_drew1 HB.out)
               clear HO_55019003
               clear BK55001
               clear BK55018
               clear HB
               have HO_55019003 := n0_
               have BK55001 := n1_
               have BK55018 := n2_
               have HB := n3_
               clear n0_ n1_ n2_ n3_
               have p55019 : 0 ≤ ((ji40) : Int) := of_decide_eq_true (by first | (with_reducible assumption) | assumption)
               have q55019 : (ji40) < (l0.length : Int) := of_decide_eq_true (by first | (with_reducible assumption) | assumption)
               obtain ⟨ad55019, A55019_3, c55019_3, e55019, hx55019_0, hx55019_1, hx55019_2, hx55019_3, hl55019_3, hi55019_3⟩ := at_T27 HR0.out (ji40) p55019 q55019
               have hw55019_3 := hx55019_3
               have hw55019_2 := hx55019_2
               have hw55019_1 := hx55019_1
               have hw55019_0 := hx55019_0
               obtain rfl : ad55010 = ad55019 := (by injection e55019)
               replace hx55019_0 := (HB.out.cell (World.block_lt_of_cell? w _ hx55019_0)).trans hx55019_0
               replace hx55019_1 := (HB.out.cell (World.block_lt_of_cell? w _ hx55019_1)).trans hx55019_1
               replace hx55019_2 := (HB.out.cell (World.block_lt_of_cell? w _ hx55019_2)).trans hx55019_2
               replace hx55019_3 := (HB.out.cell (World.block_lt_of_cell? w _ hx55019_3)).trans hx55019_3
               have HR55019_3 := Aside0.mk hi55019_3
               have HC55019_3 := Aside0.mk hl55019_3
               clear hi55019_3 hl55019_3
               replace p55019 := eq_true p55019
               replace q55019 := eq_true q55019
               have p55020 : 0 ≤ ((ji43) : Int) := of_decide_eq_true (by first | (with_reducible assumption) | assumption)
               have q55020 : (ji43) < (((rd_T27 l0 (ji40)).f3).length : Int) := of_decide_eq_true (by first | (with_reducible assumption) | assumption)
               obtain ⟨ad55020, e55020, hx55020_0⟩ := Kd.at_int HR55019_3.out (ji43) p55020 q55020
               have hw55020_0 := hx55020_0
               cases e55020
               replace hx55020_0 := (HB.out.cell (World.block_lt_of_cell? w _ hx55020_0)).trans hx55020_0
               replace p55020 := eq_true p55020
               replace q55020 := eq_true q55020
               have p47 : 0 ≤ (x6_2 : Int) := of_decide_eq_true (by first | (with_reducible assumption) | assumption)
               have q47 : (x6_2 : Int) < ((x55019003_2.length : Int) : Int) := of_decide_eq_true (by first | (with_reducible assumption) | assumption)
               obtain ⟨go47, co47, eo47, gb47, gl47, cl47, HG47⟩ := Kd.R_form HO_55019003.out (by omega)
               (first | cases eo47 | (injection eo47 with ea_ en_ ec_; (first | subst ea_ | (injection ea_ with ea_; subst ea_)); subst ec_; clear en_))
               have GB47 := Aside0.mk gb47
               have GG47 := Aside0.mk HG47
               clear gb47 gl47 HG47
               obtain ⟨hx47_0, hf47_0⟩ := Kd.R_celln 0 HO_55019003.out (x6_2 : Int) p47 q47
               replace p47 := eq_true p47
               replace q47 := eq_true q47
               have HP52 := Kd.R_putn HO_55019003.out (x6_2 : Int) (rd ((rd_T27 l0 (ji40)).f3) (ji43))
               rw [← Ny55021.out] at HP52
               have HQ52 := Aside0.mk HP52
               clear HP52
               refine start_ (n := 19) (S := fun w' => w'.cell? ⟨gb55018, 0, none⟩ = some (.int .i64 t55012) ∧ w'.cell? ⟨gb55018, 1, none⟩ = some (.int .i64 t55013) ∧ w'.cell? ⟨gb55018, 2, none⟩ = some (.int .i64 t55014) ∧ w'.cell? ⟨gb55018, 3, none⟩ = some (.slice (some ⟨go47, 0, none⟩) x55019003_2.length co50) ∧ w'.cell? (ad55010.add (((ji40)).toNat * 4)) = some (.int .i64 ((rd_T27 l0 (ji40)).f0)) ∧ w'.cell? ⟨(ad55010.add (((ji40)).toNat * 4)).block, (ad55010.add (((ji40)).toNat * 4)).off + 1, none⟩ = some (.int .i64 ((rd_T27 l0 (ji40)).f1)) ∧ w'.cell? ⟨(ad55010.add (((ji40)).toNat * 4)).block, (ad55010.add (((ji40)).toNat * 4)).off + 2, none⟩ = some (.int .i64 ((rd_T27 l0 (ji40)).f2)) ∧ w'.cell? ⟨(ad55010.add (((ji40)).toNat * 4)).block, (ad55010.add (((ji40)).toNat * 4)).off + 3, none⟩ = some (.slice (some ad55020) ((rd_T27 l0 (ji40)).f3).length c55019_3) ∧ w'.cell? (ad55020.add ((ji43)).toNat) = some (.int .i64 (rd ((rd_T27 l0 (ji40)).f3) (ji43)))) (ds := [18]) #[false, false, false, false, false, false, false, false, false, false, false, false, false, false, false, false, false, false, false] (by kernel_rfl) rfl rfl ⟨(blk_cell BK55018.out 0).trans rfl, (blk_cell BK55018.out 1).trans rfl, (blk_cell BK55018.out 2).trans rfl, (blk_cell BK55018.out 3).trans rfl, ((HB.out.cell (World.block_lt_of_cell? w _ hw55019_0)).trans hw55019_0), ((HB.out.cell (World.block_lt_of_cell? w _ hw55019_1)).trans hw55019_1), ((HB.out.cell (World.block_lt_of_cell? w _ hw55019_2)).trans hw55019_2), ((HB.out.cell (World.block_lt_of_cell? w _ hw55019_3)).trans hw55019_3), ((HB.out.cell (World.block_lt_of_cell? w _ hw55020_0)).trans hw55020_0)⟩ (fun hHeld => ?_); refine with_tabW spec_MergePlanes.tab12 spec_MergePlanes.bits12 (fun HT_ HW_ => ?_)
               generalize wr.drew = w51 at HO_55019003 BK55001 BK55018 HB GG47 HQ52 HR55019_3 hf47_0 hx47_0 hx55019_0 hx55019_1 hx55019_2 hx55019_3 hx55020_0 hHeld ⊢
               refine pu 0 75 ?_ ?_ rfl rfl (any_of HT_.out (by kernel_rfl)) (Or.inl ⟨by rfl, ?_⟩) ?_ ?_
               rotate_left 2
               ·intro w'
                go_simp
                with_reducible rfl
               ·simp only [seval]
                rfl
               refine pu 2 77 ?_ ?_ rfl rfl (any_of HT_.out (by kernel_rfl)) (Or.inl ⟨by rfl, ?_⟩) ?_ ?_
               rotate_left 2
               ·intro w'
                go_simp
                with_reducible rfl
               ·simp only [seval]
                rfl
               refine pu 3 78 ?_ ?_ rfl rfl (any_of HT_.out (by kernel_rfl)) (Or.inl ⟨by rfl, ?_⟩) ?_ ?_
               rotate_left 2
               ·intro w'
                go_simp
                with_reducible rfl
               ·simp only [seval]
                rfl
               refine pu 4 79 ?_ ?_ rfl rfl (any_of HT_.out (by kernel_rfl)) (Or.inl ⟨by rfl, ?_⟩) ?_ ?_
               rotate_left 2
               ·intro w'
                go_simp
                with_reducible rfl
               ·simp only [seval]
                rfl
               refine pu 5 80 ?_ ?_ rfl rfl (any_of HT_.out (by kernel_rfl)) (Or.inl ⟨by rfl, ?_⟩) ?_ ?_
               rotate_left 2
               ·intro w'
                go_simp
                with_reducible rfl
               ·simp only [seval]
                rfl
               refine pu 6 81 ?_ ?_ rfl rfl (any_of HT_.out (by kernel_rfl)) (Or.inl ⟨by rfl, ?_⟩) ?_ ?_
               rotate_left 2
               ·intro w'
                go_simp
                with_reducible rfl
               ·simp only [seval]
                rfl
               refine pu 7 82 ?_ ?_ rfl rfl (any_of HT_.out (by kernel_rfl)) (Or.inl ⟨by rfl, ?_⟩) ?_ ?_
               rotate_left 2
               ·intro w'
                go_simp
                with_reducible rfl
               ·simp only [seval]
                rfl
               refine pu 8 83 ?_ ?_ rfl rfl (any_of HT_.out (by kernel_rfl)) (Or.inl ⟨by rfl, ?_⟩) ?_ ?_
               rotate_left 2
               ·intro w'
                go_simp
                with_reducible rfl
               ·simp only [seval]
                rfl
               refine pu 9 84 ?_ ?_ rfl rfl (any_of HT_.out (by kernel_rfl)) (Or.inl ⟨by rfl, ?_⟩) ?_ ?_
               rotate_left 2
               ·intro w'
                go_simp
                with_reducible rfl
               ·simp only [seval]
                rfl
               refine pu 11 86 ?_ ?_ rfl rfl (any_of HT_.out (by kernel_rfl)) (Or.inl ⟨by rfl, ?_⟩) ?_ ?_
               rotate_left 2
               ·intro w'
                go_simp
                with_reducible rfl
               ·simp only [seval]
                rfl
               refine pu 12 87 ?_ ?_ rfl rfl (any_of HT_.out (by kernel_rfl)) (Or.inl ⟨by rfl, ?_⟩) ?_ ?_
               rotate_left 2
               ·intro w'
                go_simp
                with_reducible rfl
               ·simp only [seval]
                rfl
               refine pu 13 88 ?_ ?_ rfl rfl (any_of HT_.out (by kernel_rfl)) (Or.inl ⟨by rfl, ?_⟩) ?_ ?_
               rotate_left 2
               ·intro w'
                go_simp
                with_reducible rfl
               ·simp only [seval]
                rfl
               refine pu 14 89 ?_ ?_ rfl rfl (any_of HT_.out (by kernel_rfl)) (Or.inl ⟨by rfl, ?_⟩) ?_ ?_
               rotate_left 2
               ·intro w'
                go_simp
                with_reducible rfl
               ·simp only [seval]
                rfl
               refine tk 1 76 ?_ ?_ rfl rfl (take_ofW HT_.out HW_.out (by kernel_rfl)) (Or.inl ⟨by rfl, ?_⟩) hHeld ?_ ?_
               rotate_left 2
               ·rintro w' ⟨s0, s1, s2, s3, s4, s5, s6, s7, s8⟩
                go_simp
                with_reducible rfl
               ·simp only [seval]
                rfl
               refine tk 10 85 ?_ ?_ rfl rfl (take_ofW HT_.out HW_.out (by kernel_rfl)) (Or.inl ⟨by rfl, ?_⟩) hHeld ?_ ?_
               rotate_left 2
               ·rintro w' ⟨s0, s1, s2, s3, s4, s5, s6, s7, s8⟩
                go_simp
                with_reducible rfl
               ·simp only [seval]
                rfl
               refine pu 15 90 ?_ ?_ rfl rfl (any_of HT_.out (by kernel_rfl)) (Or.inl ⟨by rfl, ?_⟩) ?_ ?_
               rotate_left 2
               ·intro w'
                go_simp
                with_reducible rfl
               ·simp only [seval]
                rfl
               refine tk 16 91 ?_ ?_ rfl rfl (take_ofW HT_.out HW_.out (by kernel_rfl)) (Or.inl ⟨by rfl, ?_⟩) hHeld ?_ ?_
               rotate_left 2
               ·rintro w' ⟨s0, s1, s2, s3, s4, s5, s6, s7, s8⟩
                go_simp
                with_reducible rfl
               ·simp only [seval]
                rfl
               refine pu 17 92 ?_ ?_ rfl rfl (any_of HT_.out (by kernel_rfl)) (Or.inl ⟨by rfl, ?_⟩) ?_ ?_
               rotate_left 2
               ·intro w'
                go_simp
                with_reducible rfl
               ·simp only [seval]
                rfl
               refine last_ (i := 18) (N := none) #[true, true, true, true, true, true, true, true, true, true, true, true, true, true, true, true, true, true, true] rfl rfl (one_of HT_.out (by kernel_rfl)) (by decide) (fun K hK => ?_)
               refine skip_ (w1 := ?_) (by rfl) rfl ?_ ?_
               rotate_left
               ·go_simp
                rfl
               refine hK.out _ _ ?_
               clear hK K
               refine done_ (done_of HT_.out (by kernel_rfl)) ?_
               try go_wp2
               go_roundg k2
               case measure => have := HK1.out; have := HK2.out; omega
               case rel => exact ⟨(wrap64 (x6_2 + 1)), (y55021), (.slice (some ⟨go47, 0, none⟩) x55019003_2.length co50), (by first | rfl | (simp; done) | (simp [*]; done)), H', ⟨by have := HK1.out; have := HK2.out; omega⟩, ⟨by (with_reducible repeat (first | apply Kd.R_alloc | apply Kd.R_drewN | apply Kd.R_drew)); exact HQ52.out⟩, ⟨by (with_reducible repeat (first | refine blk_drewN ?_ _ | refine blk_drew ?_ | refine blk_alloc ?_ _)); refine blk_far ?_ (by have h_ := Kd.R_ne HO_55019003.out BK55001.out (by decide); intro e_; exact h_ (by rw [e_]; rfl)) _; (with_reducible repeat (first | refine blk_drewN ?_ _ | refine blk_drew ?_ | refine blk_alloc ?_ _)); exact BK55001.out⟩, ⟨by (with_reducible repeat (first | refine blk_drewN ?_ _ | refine blk_drew ?_ | refine blk_alloc ?_ _)); refine blk_far ?_ (by have h_ := Kd.R_ne HO_55019003.out BK55018.out (by decide); intro e_; exact h_ (by rw [e_]; rfl)) _; (with_reducible repeat (first | refine blk_drewN ?_ _ | refine blk_drew ?_ | refine blk_alloc ?_ _)); exact BK55018.out⟩, ⟨by repeat (first | (with_reducible first | exact HB.out | apply below_alloc | apply pw_below_drewN | apply below_drew1 | refine below_set ?_ GB47.out | refine below_set ?_ GE55001.out | refine below_set ?_ GE55018.out) | exact HB.out)⟩⟩
              ·rw [if_neg c46] at H
               exact absurd H (by simp)
             ·rw [if_neg c45] at H
              exact absurd H (by simp)
            ·rw [if_neg c44] at H
             exact absurd H (by simp)
           ·rw [if_neg c42] at H
            exact absurd H (by simp)
          ·rw [if_neg c41] at H
           exact absurd H (by simp)
        ·rw [if_neg c38] at H
         have c38b0 : decide (x6_2 < (x55019003_2.length : Int)) = false := decide_eq_false c38
         clear c38
         simp only [Option.some.injEq, Prod.mk.injEq] at H
         obtain ⟨rfl, rfl, rfl, rfl, rfl⟩ := H
         have hnb53 := NB55018_55001.out
         have hnc53 := NB55001_55018.out
         have hcz54_0 : wr.cell? ⟨gb55018, 0, none⟩ = some (.int .i64 t55012) := (blk_cell BK55018.out 0).trans rfl
         have hcz54_1 : wr.cell? ⟨gb55018, 1, none⟩ = some (.int .i64 t55013) := (blk_cell BK55018.out 1).trans rfl
         have hcz54_2 : wr.cell? ⟨gb55018, 2, none⟩ = some (.int .i64 t55014) := (blk_cell BK55018.out 2).trans rfl
         have hcz54_3 : wr.cell? ⟨gb55018, 3, none⟩ = some (u55019003) := (blk_cell BK55018.out 3).trans rfl
         have hfz54_0 := blk_frozen BK55018.out 0
         have hfz54_1 := blk_frozen BK55018.out 1
         have hfz54_2 := blk_frozen BK55018.out 2
         have hfz54_3 := blk_frozen BK55018.out 3
         obtain ⟨Ao55, co55, eo55⟩ := Kd.R_slice HO_55019003.out
         subst eo55
         have hcz56_0 : wr.cell? ⟨gb55001, 0, none⟩ = some (.int .i64 x55002000_1) := (blk_cell BK55001.out 0).trans rfl
         have hcz56_1 : wr.cell? ⟨gb55001, 1, none⟩ = some (.int .i64 x55002001_1) := (blk_cell BK55001.out 1).trans rfl
         have hcz56_2 : wr.cell? ⟨gb55001, 2, none⟩ = some (.int .i64 x55002002_1) := (blk_cell BK55001.out 2).trans rfl
         have hcz56_3 : wr.cell? ⟨gb55001, 3, none⟩ = some (.slice none 0 0) := (blk_cell BK55001.out 3).trans rfl
         have hfz56_0 := blk_frozen BK55001.out 0
         have hfz56_1 := blk_frozen BK55001.out 1
         have hfz56_2 := blk_frozen BK55001.out 2
         have hfz56_3 := blk_frozen BK55001.out 3
         go_wp2
         refine bodyPost_ret (results_ct rfl _ _ gb55001 27 #[.int .i64 t55012, .int .i64 t55013, .int .i64 t55014, .slice Ao55 x55019003_2.length co55] (0, 0) _ rfl (by (with_reducible repeat (first | refine blk_drewN ?_ _ | refine blk_drew ?_ | refine blk_alloc ?_ _)); refine blk_put (cs := #[.int .i64 t55012, .int .i64 t55013, .int .i64 t55014, .slice none 0 0]) ?_ 3 _ rfl; (with_reducible repeat (first | refine blk_drewN ?_ _ | refine blk_drew ?_ | refine blk_alloc ?_ _)); refine blk_put (cs := #[.int .i64 t55012, .int .i64 t55013, .int .i64 x55002002_1, .slice none 0 0]) ?_ 2 _ rfl; (with_reducible repeat (first | refine blk_drewN ?_ _ | refine blk_drew ?_ | refine blk_alloc ?_ _)); refine blk_put (cs := #[.int .i64 t55012, .int .i64 x55002001_1, .int .i64 x55002002_1, .slice none 0 0]) ?_ 1 _ rfl; (with_reducible repeat (first | refine blk_drewN ?_ _ | refine blk_drew ?_ | refine blk_alloc ?_ _)); refine blk_put (cs := #[.int .i64 x55002000_1, .int .i64 x55002001_1, .int .i64 x55002002_1, .slice none 0 0]) ?_ 0 _ rfl; (with_reducible repeat (first | refine blk_drewN ?_ _ | refine blk_drew ?_ | refine blk_alloc ?_ _)); exact BK55001.out) Try.underlying27 rfl (by kernel_rfl)) rfl ?_
         exact ⟨_, by first | rfl | (simp [errW_none, errW_some] <;> rfl) | (simp [*, errW_none, errW_some] <;> rfl), by (with_reducible repeat (first | apply Kd.R_alloc | apply Kd.R_drewN | apply Kd.R_drew)); exact Kd.R_mono (Kd.R_far (p := ⟨gb55001, 3, none⟩) (Kd.R_far (p := ⟨gb55001, 2, none⟩) (Kd.R_far (p := ⟨gb55001, 1, none⟩) (Kd.R_far (p := ⟨gb55001, 0, none⟩) (Kd.R_types HO_55019003.out BK55001.out (by decide)) (fun _ hk => hk.2) (.int .i64 t55012)) (fun _ hk => hk.2) (.int .i64 t55013)) (fun _ hk => hk.2) (.int .i64 t55014)) (fun _ hk => hk.2) (.slice Ao55 x55019003_2.length co55)) (fun _ hk => trivial), by repeat (first | (with_reducible first | exact HB.out | apply below_alloc | apply pw_below_drewN | apply below_drew1 | refine below_set ?_ GE55001.out | refine below_set ?_ GE55018.out) | exact HB.out)⟩
     ·rw [if_neg c27] at H
      exact absurd H (by simp)
 ·replace c3 := Bool.eq_false_iff.mpr c3
  subst c3
  have H1 : (some (0, 0, 0, ([] : List Int), false)) = some (r1, r2, r3, r4, r5) := by rw [if_neg (show ¬ (false = true) by decide)] at H; exact H
  clear H
  have H := H1
  clear H1
  simp only [Option.some.injEq, Prod.mk.injEq] at H
  obtain ⟨rfl, rfl, rfl, rfl, rfl⟩ := H
  go_enter Try.func54, Try.ntmps54
  go_wp2_with (first | ((with_reducible refine gate_dst (N := 2) rfl ?_); refine box_event ?hg (N := 2) ?hd (cs := #[.int .i64 0, .int .i64 0, .int .i64 0, .slice none 0 0]) (t := 27) ?hr ?_; (case hd => rfl); (case hg => rfl); (case hr => first | (go_simp; done) | (go_simp; rfl)); intro gb55001 hg w57 hbox hb; have n0_ := Aside0.mk (below_step (by repeat (first | (with_reducible first | exact HB.out | apply below_alloc | apply pw_below_drewN | apply below_drew1) | exact HB.out)) hb); have n1_ := Aside0.mk (hbox); have n2_ := Aside0.mk ((by rw [hg]; exact (below_size (by repeat (first | (with_reducible first | exact HB.out | apply below_alloc | apply pw_below_drewN | apply below_drew1) | exact HB.out))) : w.heap.size ≤ gb55001)); have n3_ := Aside0.mk ((by rw [hg]; exact (below_size (by repeat (first | (with_reducible first | exact HB.out | apply below_alloc | apply pw_below_drewN | apply below_drew1) | exact HB.out))) : w.heap.size ≤ gb55001)); clear HB; have HB := n0_; have BK55001 := n1_; have GW55001 := n2_; have GE55001 := n3_; clear n0_ n1_ n2_ n3_; clear hb hbox hg) | ((with_reducible refine gate_callee (f := 110) rfl ?_); refine goesL_ (some 9) rfl rfl Try.func110 (by kernel_rfl) rfl #[.int .i64 (l0.length : Int), .int .i64 1, .int .i64 4] rfl (by (try simp only [bitvec_to_nat]); first | done | rfl | (simp only [List.length_drop, List.length_take]; rfl)) ?_; (with_reducible refine (spec_inRange.calls (l0.length : Int) 1 4 false _ A2.out).mono ?_); rintro e w' ⟨rfl, ⟨nd, rfl⟩⟩; refine ⟨_, rfl, ?_⟩; (try (rw [drewN_self w57]; generalize hq_ : World.drewN w57 _ = w57; have n0_ : Aside0 (w57.heap[gb55001]? = some (.cells #[.int .i64 0, .int .i64 0, .int .i64 0, .slice none 0 0] 27 (0, 0))) := ⟨by rw [← hq_]; exact (by (with_reducible repeat (first | refine blk_drewN ?_ _ | refine blk_drew ?_ | refine blk_alloc ?_ _)); exact BK55001.out)⟩; have n1_ : Aside0 (Below w.heap.size w w57) := ⟨by rw [← hq_]; exact (by repeat (first | (with_reducible first | exact HB.out | apply below_alloc | apply pw_below_drewN | apply below_drew1 | refine below_set ?_ GE55001.out) | exact HB.out))⟩; clear BK55001 HB hq_; have BK55001 := n0_; have HB := n1_; clear n0_ n1_)); have hcz58_0 : w57.cell? ⟨gb55001, 0, none⟩ = some (.int .i64 0) := (blk_cell BK55001.out 0).trans rfl; have hcz58_1 : w57.cell? ⟨gb55001, 1, none⟩ = some (.int .i64 0) := (blk_cell BK55001.out 1).trans rfl; have hcz58_2 : w57.cell? ⟨gb55001, 2, none⟩ = some (.int .i64 0) := (blk_cell BK55001.out 2).trans rfl; have hcz58_3 : w57.cell? ⟨gb55001, 3, none⟩ = some (.slice none 0 0) := (blk_cell BK55001.out 3).trans rfl; have hfz58_0 := blk_frozen BK55001.out 0; have hfz58_1 := blk_frozen BK55001.out 1; have hfz58_2 := blk_frozen BK55001.out 2; have hfz58_3 := blk_frozen BK55001.out 3))
  refine bodyPost_ret (results_ct rfl _ _ gb55001 27 #[.int .i64 0, .int .i64 0, .int .i64 0, .slice none 0 0] (0, 0) _ rfl (by (with_reducible repeat (first | refine blk_drewN ?_ _ | refine blk_drew ?_ | refine blk_alloc ?_ _)); refine blk_put (cs := #[.int .i64 0, .int .i64 0, .int .i64 0, .slice none 0 0]) ?_ 3 _ rfl; (with_reducible repeat (first | refine blk_drewN ?_ _ | refine blk_drew ?_ | refine blk_alloc ?_ _)); refine blk_put (cs := #[.int .i64 0, .int .i64 0, .int .i64 0, .slice none 0 0]) ?_ 2 _ rfl; (with_reducible repeat (first | refine blk_drewN ?_ _ | refine blk_drew ?_ | refine blk_alloc ?_ _)); refine blk_put (cs := #[.int .i64 0, .int .i64 0, .int .i64 0, .slice none 0 0]) ?_ 1 _ rfl; (with_reducible repeat (first | refine blk_drewN ?_ _ | refine blk_drew ?_ | refine blk_alloc ?_ _)); refine blk_put (cs := #[.int .i64 0, .int .i64 0, .int .i64 0, .slice none 0 0]) ?_ 0 _ rfl; (with_reducible repeat (first | refine blk_drewN ?_ _ | refine blk_drew ?_ | refine blk_alloc ?_ _)); exact BK55001.out) Try.underlying27 rfl (by kernel_rfl)) rfl ?_
  exact ⟨_, by first | rfl | (simp [errW_none, errW_some] <;> rfl) | (simp [*, errW_none, errW_some] <;> rfl), by first | exact Kd.R_nil _ _ _ _ _ | exact Kd.N_nil _ _ _ _ _ | exact Kd.V_nil _ _ _ _ _ | exact Kd.Q_nil _ _ _ _ _ | exact Kd.S_nil _ _ _ _ _, by repeat (first | (with_reducible first | exact HB.out | apply below_alloc | apply pw_below_drewN | apply below_drew1 | refine below_set ?_ GE55001.out) | exact HB.out)⟩


/- Words of this session's own hand-made walks: where the first element lies for which a test holds; draws that follow each other. -/

theorem dtrans {a b c : World} (h : Drawn0 a b) (k : Drawn0 b c) : Drawn0 a c := by
  obtain ⟨n, rfl⟩ := k
  exact h.step n

/-- where the first element is for which p holds; -1 -/
def idxF {α : Type} (p : α → Bool) : List α → Int
  | [] => -1
  | x :: xs => if p x then 0 else (let r := idxF p xs; if r < 0 then -1 else r + 1)
theorem idxF_any {α : Type} (p : α → Bool) (l : List α) : decide (idxF p l ≥ 0) = l.any p := by
  induction l with
  | nil => simp [idxF]
  | cons x xs ih =>
    unfold idxF
    by_cases h : p x = true
    · simp [h]
    · simp only [h, List.any_cons, Bool.false_or, ← ih]
      simp only [Bool.false_eq_true, if_false]
      split
      · simp; omega
      · simp; omega
/-- p fails at all that lies before k -/
def SawNone {α : Type} (p : α → Bool) (l : List α) (k : Nat) : Prop := ∀ j, j < k → ∀ h : j < l.length, p l[j] = false
theorem SawNone.succ {α : Type} {p : α → Bool} {l : List α} {k : Nat} (h : SawNone p l k) (hk : k < l.length) (hp : p l[k] = false) : SawNone p l (k + 1) := by
  intro j hj hl
  by_cases e : j = k
  · subst e; exact hp
  · exact h j (by omega) hl
theorem idxF_at {α : Type} (p : α → Bool) (l : List α) (k : Nat) (hk : k < l.length) (hs : SawNone p l k) (hp : p l[k] = true) : idxF p l = k := by
  induction l generalizing k with
  | nil => simp at hk
  | cons x xs ih =>
    unfold idxF
    cases k with
    | zero => simp at hp; simp [hp]
    | succ k =>
      have h0 : p x = false := hs 0 (by omega) (by simp)
      have := ih k (by simpa using hk) (fun j hj h => hs (j + 1) (by omega) (by simpa using h)) (by simpa using hp)
      simp [h0, this]; omega
theorem idxF_none {α : Type} (p : α → Bool) (l : List α) (hs : SawNone p l l.length) : idxF p l = -1 := by
  induction l with
  | nil => rfl
  | cons x xs ih =>
    unfold idxF
    have h0 : p x = false := hs 0 (by simp) (by simp)
    have := ih (fun j hj h => hs (j + 1) (by simpa using hj) (by simpa using h))
    simp [h0, this]
theorem rd_get (l : List Int) (k : Nat) (hk : k < l.length) : rd l k = l[k] := by simp [rd, hk]
theorem ret_bool {a b : Bool} (h : a = b) : Ending.returned (.bool a) = .returned (.bool b) := by rw [h]

/- A part of a row of one's own is overwritten by a copy; loads of images and numbers in a region that draws its order. -/

theorem fn_runs {P : Program} {oi : Oper} {a : Act} {w : World} {x : Operand} {ws : Array Operand} {ts : Array TypeId} (q : Nat) (lb : Array Value) (eg : ∀ args W, (callFunc q args).run P W = .ok (.enter q args) W)
    (hop : oi.op = .call { callee := .value x, args := ws, argTypes := ts }) (hx : a.eval x = .func (.func q) #[] lb) (args : Array Value) (hargs : ws.map a.eval ++ lb = args) : (execOp a.eval oi).run P w = .ok (.enter q args) w := by
  unfold execOp
  simp [hop, resolve, hx, Deferred.ofValue, invoke, hargs, eg]
def rowD (px : Nat → Nat → List Int) (a y : Nat) : List Int := (List.range a).flatMap (fun x => px x y)
def imgD (px : Nat → Nat → List Int) (a b : Nat) : List Int := (List.range b).flatMap (fun y => rowD px a y)
theorem rowD_succ (px : Nat → Nat → List Int) (a y : Nat) : rowD px (a + 1) y = rowD px a y ++ px a y := by unfold rowD; rw [List.range_succ, List.flatMap_append]; simp
theorem imgD_succ (px : Nat → Nat → List Int) (a b : Nat) : imgD px a (b + 1) = imgD px a b ++ rowD px a b := by unfold imgD; rw [List.range_succ, List.flatMap_append]; simp

def impl_isSide.f (a0 : Int) : Option (Bool) := if a0 ≥ 1 then (some (decide (a0 ≤ 16))) else (some false)
set_option maxHeartbeats 8000000 in
set_option maxRecDepth 100000 in
theorem impl_isSide.calls (a0 : Int) (r : Bool) (w : World) (h : impl_isSide.f a0 = some r) :
    Calls Try.prog 153 #[.int .i64 a0] w fun e w' => e = .returned (.bool r) ∧ Drawn0 w w' := by
  have H : (if a0 ≥ 1 then (some (decide (a0 ≤ 16))) else (some false)) = some r := h
  clear h
  by_cases c2 : a0 ≥ 1
  · rw [if_pos c2] at H
    have c2b0 : decide (1 ≤ a0) = true := decide_eq_true c2
    clear c2
    obtain rfl := Option.some.inj H
    go_enter Try.func153, Try.ntmps153
    go_wp2
    go_ret
    exact ⟨by first | rfl | (simp; done) | (simp [*]; done), by repeat (first | exact Drawn0.refl _ | apply Drawn0.step)⟩
  · rw [if_neg c2] at H
    have c2b0 : decide (1 ≤ a0) = false := decide_eq_false c2
    clear c2
    obtain rfl := Option.some.inj H
    go_enter Try.func153, Try.ntmps153
    go_wp2
    go_ret
    exact ⟨by first | rfl | (simp; done) | (simp [*]; done), by repeat (first | exact Drawn0.refl _ | apply Drawn0.step)⟩


def impl_isShape.f (a0 : Int) (a1 : Int) (a2 : Int) : Option (Bool) := (impl_isSide.f a0).bind fun t132001 => (if t132001 = true then ((impl_isSide.f a1).bind fun t132002 => (if t132002 = true then (if a2 ≥ 1 then (some (decide (a2 ≤ 4))) else (some false)) else (some false))) else (some false))
set_option maxHeartbeats 8000000 in
set_option maxRecDepth 100000 in
theorem impl_isShape.calls (a0 : Int) (a1 : Int) (a2 : Int) (r : Bool) (w : World) (h : impl_isShape.f a0 a1 a2 = some r) :
    Calls Try.prog 131 #[.int .i64 a0, .int .i64 a1, .int .i64 a2] w fun e w' => e = .returned (.bool r) ∧ Drawn0 w w' := by
  have H : ((impl_isSide.f a0).bind fun t132001 => (if t132001 = true then ((impl_isSide.f a1).bind fun t132002 => (if t132002 = true then (if a2 ≥ 1 then (some (decide (a2 ≤ 4))) else (some false)) else (some false))) else (some false))) = some r := h
  clear h
  replace H := Option.bind_eq_some_iff.mp H
  obtain ⟨t132001, A40, H⟩ := H
  replace H : (if t132001 = true then ((impl_isSide.f a1).bind fun t132002 => (if t132002 = true then (if a2 ≥ 1 then (some (decide (a2 ≤ 4))) else (some false)) else (some false))) else (some false)) = some r := H
  have A4 := Aside0.mk A40
  clear A40
  by_cases c5 : t132001 = true
  · subst c5
    have H1 : ((impl_isSide.f a1).bind fun t132002 => (if t132002 = true then (if a2 ≥ 1 then (some (decide (a2 ≤ 4))) else (some false)) else (some false))) = some r := by rw [if_pos rfl] at H; exact H
    clear H
    have H := H1
    clear H1
    replace H := Option.bind_eq_some_iff.mp H
    obtain ⟨t132002, A60, H⟩ := H
    replace H : (if t132002 = true then (if a2 ≥ 1 then (some (decide (a2 ≤ 4))) else (some false)) else (some false)) = some r := H
    have A6 := Aside0.mk A60
    clear A60
    by_cases c7 : t132002 = true
    · subst c7
      have H1 : (if a2 ≥ 1 then (some (decide (a2 ≤ 4))) else (some false)) = some r := by rw [if_pos rfl] at H; exact H
      clear H
      have H := H1
      clear H1
      by_cases c8 : a2 ≥ 1
      · rw [if_pos c8] at H
        have c8b0 : decide (1 ≤ a2) = true := decide_eq_true c8
        clear c8
        obtain rfl := Option.some.inj H
        go_enter Try.func131, Try.ntmps131
        go_wp2_with (first | ((with_reducible refine gate_callee (f := 153) rfl ?_); refine goesL_ (some 8) rfl rfl Try.func153 (by kernel_rfl) rfl #[.int .i64 a0] rfl (by (try simp only [List.map_toArray, List.map_cons, List.map_nil]); first | done | rfl | (simp only [List.length_drop, List.length_take]; rfl)) ?_; (with_reducible refine (impl_isSide.calls a0 true _ A4.out).mono ?_); rintro e w' ⟨rfl, ⟨nd, rfl⟩⟩; refine ⟨_, rfl, ?_⟩) | (go_at_call 153; (with_reducible refine (impl_isSide.calls a1 true _ A6.out).mono ?_); rintro e w' ⟨rfl, ⟨nd, rfl⟩⟩))
        go_ret
        exact ⟨by first | rfl | (simp; done) | (simp [*]; done), by repeat (first | exact Drawn0.refl _ | apply Drawn0.step)⟩
      · rw [if_neg c8] at H
        have c8b0 : decide (1 ≤ a2) = false := decide_eq_false c8
        clear c8
        obtain rfl := Option.some.inj H
        go_enter Try.func131, Try.ntmps131
        go_wp2_with (first | ((with_reducible refine gate_callee (f := 153) rfl ?_); refine goesL_ (some 8) rfl rfl Try.func153 (by kernel_rfl) rfl #[.int .i64 a0] rfl (by (try simp only [List.map_toArray, List.map_cons, List.map_nil]); first | done | rfl | (simp only [List.length_drop, List.length_take]; rfl)) ?_; (with_reducible refine (impl_isSide.calls a0 true _ A4.out).mono ?_); rintro e w' ⟨rfl, ⟨nd, rfl⟩⟩; refine ⟨_, rfl, ?_⟩) | (go_at_call 153; (with_reducible refine (impl_isSide.calls a1 true _ A6.out).mono ?_); rintro e w' ⟨rfl, ⟨nd, rfl⟩⟩))
        go_ret
        exact ⟨by first | rfl | (simp; done) | (simp [*]; done), by repeat (first | exact Drawn0.refl _ | apply Drawn0.step)⟩
    · replace c7 := Bool.eq_false_iff.mpr c7
      subst c7
      have H1 : (some false) = some r := by rw [if_neg (show ¬ (false = true) by decide)] at H; exact H
      clear H
      have H := H1
      clear H1
      obtain rfl := Option.some.inj H
      go_enter Try.func131, Try.ntmps131
      go_wp2_with (first | ((with_reducible refine gate_callee (f := 153) rfl ?_); refine goesL_ (some 8) rfl rfl Try.func153 (by kernel_rfl) rfl #[.int .i64 a0] rfl (by (try simp only [List.map_toArray, List.map_cons, List.map_nil]); first | done | rfl | (simp only [List.length_drop, List.length_take]; rfl)) ?_; (with_reducible refine (impl_isSide.calls a0 true _ A4.out).mono ?_); rintro e w' ⟨rfl, ⟨nd, rfl⟩⟩; refine ⟨_, rfl, ?_⟩) | (go_at_call 153; (with_reducible refine (impl_isSide.calls a1 false _ A6.out).mono ?_); rintro e w' ⟨rfl, ⟨nd, rfl⟩⟩))
      go_ret
      exact ⟨by first | rfl | (simp; done) | (simp [*]; done), by repeat (first | exact Drawn0.refl _ | apply Drawn0.step)⟩
  · replace c5 := Bool.eq_false_iff.mpr c5
    subst c5
    have H1 : (some false) = some r := by rw [if_neg (show ¬ (false = true) by decide)] at H; exact H
    clear H
    have H := H1
    clear H1
    obtain rfl := Option.some.inj H
    go_enter Try.func131, Try.ntmps131
    go_wp2_with (first | ((with_reducible refine gate_callee (f := 153) rfl ?_); refine goesL_ (some 8) rfl rfl Try.func153 (by kernel_rfl) rfl #[.int .i64 a0] rfl (by (try simp only [List.map_toArray, List.map_cons, List.map_nil]); first | done | rfl | (simp only [List.length_drop, List.length_take]; rfl)) ?_; (with_reducible refine (impl_isSide.calls a0 false _ A4.out).mono ?_); rintro e w' ⟨rfl, ⟨nd, rfl⟩⟩; refine ⟨_, rfl, ?_⟩))
    go_ret
    exact ⟨by first | rfl | (simp; done) | (simp [*]; done), by repeat (first | exact Drawn0.refl _ | apply Drawn0.step)⟩


/- slices.IndexFunc over whole numbers: where the first element lies for which the function value's answer is true. -/

set_option maxHeartbeats 1000000 in
theorem idxFunc_int (g : Nat) (lb : Array Value) (p : Int → Bool) (A : Option Addr) (c : Nat) (l : List Int) (w : World)
    (eg : ∀ args W, (callFunc g args).run Try.prog W = .ok (.enter g args) W)
    (hp : ∀ (W : World) (x : Int), Below w.heap.size w W → Calls Try.prog g (#[.int .i64 x] ++ lb) W fun e W' => e = .returned (.bool (p x)) ∧ Drawn0 W W')
    (hr : Kd.C (Kd.int .i64) w A l.length l) :
    Calls Try.prog 162 #[.slice A l.length c, .func (.func g) #[] lb] w fun e w' => e = .returned (.int .i64 (idxF p l)) ∧ Drawn0 w w' := by
  have hm : l.length ≤ 9223372036854775807 := hr.2.1
  have HP := Aside0.mk hp
  have HR := Aside0.mk hr
  clear hp hr
  go_enter Try.func162, Try.ntmps162
  go_wp2
  go_loopw [8] (fun v8 W => ∃ k : Nat, v8 = .int .i64 k ∧ k ≤ l.length ∧ SawNone p l k ∧ Drawn0 w W) (fun v8 _ => l.length - (intOf v8).toNat)
  case atStart => exact ⟨0, rfl, by omega, fun j hj => by omega, Drawn0.refl _⟩
  case round =>
    obtain ⟨k, rfl, hk, hs, hd⟩ := hrel
    by_cases hlt : k < l.length
    · obtain ⟨ad, e, hx⟩ := Kd.at_int HR.out (k : Int) (by omega) (by omega)
      cases e
      rw [rd_get l k hlt, Int.toNat_natCast] at hx
      replace hx := (hd.below.cell (World.block_lt_of_cell? w _ hx)).trans hx
      by_cases hv : p l[k] = true
      · have HV := Aside0.mk hv
        clear hv
        go_wp2_with (first | (go_at_fn g; refine (HP.out _ _ hd.below).mono ?_; rintro e w' ⟨rfl, hd2⟩; rw [HV.out]))
        go_ret
        exact ⟨by rw [idxF_at p l k hlt hs HV.out]; rfl, dtrans hd hd2⟩
      · replace hv : p l[k] = false := by simpa using hv
        have hs' := hs.succ hlt hv
        have HV := Aside0.mk hv
        clear hv
        go_wp2_with (first | (go_at_fn g; refine (HP.out _ _ hd.below).mono ?_; rintro e w' ⟨rfl, hd2⟩; rw [HV.out]))
        go_roundw
        case rel => exact ⟨k + 1, by go_num, by omega, hs', dtrans hd hd2⟩
        case measure => simp [intOf]; omega
    · go_wp2
      go_ret
      have : k = l.length := by omega
      subst this
      exact ⟨by rw [idxF_none p l hs]; rfl, hd⟩

/- slices.ContainsFunc over whole numbers. -/

set_option maxHeartbeats 1000000 in
theorem containsFunc_int (g : Nat) (lb : Array Value) (p : Int → Bool) (A : Option Addr) (c : Nat) (l : List Int) (w : World)
    (eg : ∀ args W, (callFunc g args).run Try.prog W = .ok (.enter g args) W)
    (hp : ∀ (W : World) (x : Int), Below w.heap.size w W → Calls Try.prog g (#[.int .i64 x] ++ lb) W fun e W' => e = .returned (.bool (p x)) ∧ Drawn0 W W')
    (hr : Kd.C (Kd.int .i64) w A l.length l) :
    Calls Try.prog 154 #[.slice A l.length c, .func (.func g) #[] lb] w fun e w' => e = .returned (.bool (l.any p)) ∧ Drawn0 w w' := by
  have HP := Aside0.mk hp
  have HR := Aside0.mk hr
  clear hp hr
  go_enter Try.func154, Try.ntmps154
  go_wp2_with (first | (go_at_call 162; refine (idxFunc_int g lb p _ _ _ _ eg HP.out HR.out).mono ?_; rintro e w' ⟨rfl, hd⟩))
  go_ret
  exact ⟨ret_bool (by first | exact idxF_any p l | (rw [← idxF_any p l])), hd⟩

/- impl.areBytes: every number is in 0..255. -/

def notByte (n : Int) : Bool := decide (n < 0) || decide (n > 255)
def impl_areBytes.f (l0 : List Int) : Option Bool := some (!l0.any notByte)

theorem areBytes1 (n : Int) (w : World) : Calls Try.prog 155 #[.int .i64 n] w fun e w' => e = .returned (.bool (notByte n)) ∧ Drawn0 w w' := by
  by_cases h1 : n < 0 <;> by_cases h2 : n > 255
  all_goals
    go_enter Try.func155, Try.ntmps155
    go_wp2
    go_ret
    exact ⟨by simp [notByte, *], Drawn0.refl _⟩

set_option maxHeartbeats 1000000 in
theorem impl_areBytes.calls (A0 : Option Addr) (c0 : Nat) (l0 : List Int) (r : Bool) (w : World) (hr0 : Kd.C (Kd.int .i64) w A0 l0.length l0) (hc0 : l0.length ≤ c0) (h : impl_areBytes.f l0 = some r) :
    Calls Try.prog 132 #[.slice A0 l0.length c0] w fun e w' => e = .returned (.bool r) ∧ Drawn0 w w' := by
  obtain rfl := Option.some.inj h
  clear h
  have HR := Aside0.mk hr0
  clear hr0
  have eg : ∀ args W, (callFunc 155 args).run Try.prog W = .ok (.enter 155 args) W := enters_of Try.func155 (by kernel_rfl) rfl
  go_enter Try.func132, Try.ntmps132
  go_wp2_with (first | (go_at_call 154; refine (containsFunc_int 155 #[] notByte _ _ _ _ eg (fun W x _ => areBytes1 x W) HR.out).mono ?_; rintro e w' ⟨rfl, hd⟩))
  go_ret
  exact ⟨rfl, hd⟩

def impl_isImage.f (a0_0 : Int) (a0_1 : Int) (a0_2 : Int) (l0_3 : List Int) : Option Bool := (impl_isShape.f a0_0 a0_1 a0_2).bind fun tz1 => (if tz1 = true then (if (l0_3.length : Int) = (wrap64 ((wrap64 (a0_0 * a0_1)) * a0_2)) then ((impl_areBytes.f l0_3).bind fun tz0 => (some tz0)) else (some false)) else (some false))
set_option maxHeartbeats 8000000 in
set_option maxRecDepth 100000 in
theorem impl_isImage.calls (a0_0 : Int) (a0_1 : Int) (a0_2 : Int) (A0_3 : Option Addr) (c0_3 : Nat) (l0_3 : List Int) (r : Bool) (w : World) (hr0_3 : Kd.C (Kd.int .i64) w A0_3 l0_3.length l0_3) (hc0_3 : l0_3.length ≤ c0_3) (h : impl_isImage.f a0_0 a0_1 a0_2 l0_3 = some r) :
    Calls Try.prog 83 #[.agg #[.int .i64 a0_0, .int .i64 a0_1, .int .i64 a0_2, .slice A0_3 l0_3.length c0_3]] w fun e w' => e = .returned (.bool r) ∧ Below w.heap.size w w' := by
  have hu27 := Try.underlying27
  have HR0_3 := Aside0.mk hr0_3
  have HC0_3 := Aside0.mk hc0_3
  clear hr0_3 hc0_3
  have HB := Aside0.mk (Below.refl w.heap.size w)
  have H : ((impl_isShape.f a0_0 a0_1 a0_2).bind fun tz1 => (if tz1 = true then (if (l0_3.length : Int) = (wrap64 ((wrap64 (a0_0 * a0_1)) * a0_2)) then ((impl_areBytes.f l0_3).bind fun tz0 => (some tz0)) else (some false)) else (some false))) = some r := h
  clear h
  replace H := Option.bind_eq_some_iff.mp H
  obtain ⟨tz1, A20, H⟩ := H
  replace H : (if tz1 = true then (if (l0_3.length : Int) = (wrap64 ((wrap64 (a0_0 * a0_1)) * a0_2)) then ((impl_areBytes.f l0_3).bind fun tz0 => (some tz0)) else (some false)) else (some false)) = some r := H
  have A2 := Aside0.mk A20
  clear A20
  by_cases c3 : tz1 = true
  · subst c3
    have H1 : (if (l0_3.length : Int) = (wrap64 ((wrap64 (a0_0 * a0_1)) * a0_2)) then ((impl_areBytes.f l0_3).bind fun tz0 => (some tz0)) else (some false)) = some r := by rw [if_pos rfl] at H; exact H
    clear H
    have H := H1
    clear H1
    by_cases c4 : (l0_3.length : Int) = (wrap64 ((wrap64 (a0_0 * a0_1)) * a0_2))
    · rw [if_pos c4] at H
      have c4b0 : ((l0_3.length : Int) == (wrap64 ((wrap64 (a0_0 * a0_1)) * a0_2))) = true := beq_iff_eq.mpr c4
      have c4b1 : ((l0_3.length : Int) != (wrap64 ((wrap64 (a0_0 * a0_1)) * a0_2))) = false := bne_eq_false_iff_eq.mpr c4
      clear c4
      replace H := Option.bind_eq_some_iff.mp H
      obtain ⟨tz0, A50, H⟩ := H
      replace H : (some tz0) = some r := H
      have A5 := Aside0.mk A50
      clear A50
      obtain rfl := Option.some.inj H
      go_enter Try.func83, Try.ntmps83
      go_wp2_with (first | ((with_reducible refine gate_dst (N := 1) rfl ?_); (try (refine gate_guard (by rfl) ?_; dsimp only)); refine box_event (by rfl) (N := 1) (by rfl) (cs := #[.int .i64 a0_0, .int .i64 a0_1, .int .i64 a0_2, .slice A0_3 l0_3.length c0_3]) (t := 27) (by go_simp; done) ?_; intro gbz0 hg w6 hbox hb; replace HB := Aside0.mk (below_step HB.out hb); have BKz0 := Aside0.mk (hbox); clear hb hbox hg; have hcz7_0 : w6.cell? ⟨gbz0, 0, none⟩ = some (.int .i64 a0_0) := (blk_cell BKz0.out 0).trans rfl; have hcz7_1 : w6.cell? ⟨gbz0, 1, none⟩ = some (.int .i64 a0_1) := (blk_cell BKz0.out 1).trans rfl; have hcz7_2 : w6.cell? ⟨gbz0, 2, none⟩ = some (.int .i64 a0_2) := (blk_cell BKz0.out 2).trans rfl; have hcz7_3 : w6.cell? ⟨gbz0, 3, none⟩ = some (.slice A0_3 l0_3.length c0_3) := (blk_cell BKz0.out 3).trans rfl) | ((with_reducible refine gate_callee (f := 131) rfl ?_); refine goesL_ (some 9) rfl rfl Try.func131 (by kernel_rfl) rfl #[.int .i64 a0_0, .int .i64 a0_1, .int .i64 a0_2] rfl (by (try simp only [bitvec_to_nat]); rfl) ?_; (with_reducible refine (impl_isShape.calls a0_0 a0_1 a0_2 true _ A2.out).mono ?_); rintro e w' ⟨rfl, ⟨nd, rfl⟩⟩; refine ⟨_, rfl, ?_⟩) | (go_at_call 132; (with_reducible refine (impl_areBytes.calls _ _ l0_3 tz0 _ ?side1 ?side2 A5.out).mono ?_); (case side1 => repeat (exact (Kd.C_below HR0_3.out (by repeat (with_reducible first | exact HB.out | apply pw_below_drewN))))); (case side2 => exact HC0_3.out); rintro e w' ⟨rfl, ⟨nd, rfl⟩⟩))
      go_ret
      exact ⟨by rfl, by repeat (with_reducible first | exact HB.out | apply pw_below_drewN)⟩
    rw [if_neg c4] at H
    have c4b0 : ((l0_3.length : Int) == (wrap64 ((wrap64 (a0_0 * a0_1)) * a0_2))) = false := beq_eq_false_iff_ne.mpr c4
    have c4b1 : ((l0_3.length : Int) != (wrap64 ((wrap64 (a0_0 * a0_1)) * a0_2))) = true := bne_iff_ne.mpr c4
    obtain rfl := Option.some.inj H
    go_enter Try.func83, Try.ntmps83
    go_wp2_with (first | ((with_reducible refine gate_dst (N := 1) rfl ?_); (try (refine gate_guard (by rfl) ?_; dsimp only)); refine box_event (by rfl) (N := 1) (by rfl) (cs := #[.int .i64 a0_0, .int .i64 a0_1, .int .i64 a0_2, .slice A0_3 l0_3.length c0_3]) (t := 27) (by go_simp; done) ?_; intro gbz0 hg w8 hbox hb; replace HB := Aside0.mk (below_step HB.out hb); have BKz0 := Aside0.mk (hbox); clear hb hbox hg; have hcz9_0 : w8.cell? ⟨gbz0, 0, none⟩ = some (.int .i64 a0_0) := (blk_cell BKz0.out 0).trans rfl; have hcz9_1 : w8.cell? ⟨gbz0, 1, none⟩ = some (.int .i64 a0_1) := (blk_cell BKz0.out 1).trans rfl; have hcz9_2 : w8.cell? ⟨gbz0, 2, none⟩ = some (.int .i64 a0_2) := (blk_cell BKz0.out 2).trans rfl; have hcz9_3 : w8.cell? ⟨gbz0, 3, none⟩ = some (.slice A0_3 l0_3.length c0_3) := (blk_cell BKz0.out 3).trans rfl) | ((with_reducible refine gate_callee (f := 131) rfl ?_); refine goesL_ (some 9) rfl rfl Try.func131 (by kernel_rfl) rfl #[.int .i64 a0_0, .int .i64 a0_1, .int .i64 a0_2] rfl (by (try simp only [bitvec_to_nat]); rfl) ?_; (with_reducible refine (impl_isShape.calls a0_0 a0_1 a0_2 true _ A2.out).mono ?_); rintro e w' ⟨rfl, ⟨nd, rfl⟩⟩; refine ⟨_, rfl, ?_⟩))
    go_ret
    exact ⟨by rfl, by repeat (with_reducible first | exact HB.out | apply pw_below_drewN)⟩
  replace c3 := Bool.eq_false_iff.mpr c3
  subst c3
  have H1 : (some false) = some r := by rw [if_neg (show ¬ (false = true) by decide)] at H; exact H
  clear H
  have H := H1
  clear H1
  obtain rfl := Option.some.inj H
  go_enter Try.func83, Try.ntmps83
  go_wp2_with (first | ((with_reducible refine gate_dst (N := 1) rfl ?_); (try (refine gate_guard (by rfl) ?_; dsimp only)); refine box_event (by rfl) (N := 1) (by rfl) (cs := #[.int .i64 a0_0, .int .i64 a0_1, .int .i64 a0_2, .slice A0_3 l0_3.length c0_3]) (t := 27) (by go_simp; done) ?_; intro gbz0 hg w10 hbox hb; replace HB := Aside0.mk (below_step HB.out hb); have BKz0 := Aside0.mk (hbox); clear hb hbox hg; have hcz11_0 : w10.cell? ⟨gbz0, 0, none⟩ = some (.int .i64 a0_0) := (blk_cell BKz0.out 0).trans rfl; have hcz11_1 : w10.cell? ⟨gbz0, 1, none⟩ = some (.int .i64 a0_1) := (blk_cell BKz0.out 1).trans rfl; have hcz11_2 : w10.cell? ⟨gbz0, 2, none⟩ = some (.int .i64 a0_2) := (blk_cell BKz0.out 2).trans rfl) | ((with_reducible refine gate_callee (f := 131) rfl ?_); refine goesL_ (some 9) rfl rfl Try.func131 (by kernel_rfl) rfl #[.int .i64 a0_0, .int .i64 a0_1, .int .i64 a0_2] rfl (by (try simp only [bitvec_to_nat]); rfl) ?_; (with_reducible refine (impl_isShape.calls a0_0 a0_1 a0_2 false _ A2.out).mono ?_); rintro e w' ⟨rfl, ⟨nd, rfl⟩⟩; refine ⟨_, rfl, ?_⟩))
  go_ret
  exact ⟨by rfl, by repeat (with_reducible first | exact HB.out | apply pw_below_drewN)⟩


def laws_szIntS.f (l0 : List Int) (a1 : Int) : Option (Int) := if (wrap64 (a1 - (l0.length : Int))) < 0 then (some (-1)) else (some (wrap64 (a1 - (l0.length : Int))))
set_option maxHeartbeats 8000000 in
set_option maxRecDepth 100000 in
theorem laws_szIntS.calls (A0 : Option Addr) (c0 : Nat) (l0 : List Int) (a1 : Int) (r : Int) (w : World) (hr0 : Kd.C (Kd.int .i64) w A0 l0.length l0) (hc0 : l0.length ≤ c0) (h : laws_szIntS.f l0 a1 = some r) :
    Calls Try.prog 80 #[.slice A0 l0.length c0, .int .i64 a1] w fun e w' => e = .returned (.int .i64 r) ∧ Drawn0 w w' := by
  have HR0 := Aside0.mk hr0
  have HC0 := Aside0.mk hc0
  clear hr0 hc0
  have H : (if (wrap64 (a1 - (l0.length : Int))) < 0 then (some (-1)) else (some (wrap64 (a1 - (l0.length : Int))))) = some r := h
  clear h
  by_cases c3 : (wrap64 (a1 - (l0.length : Int))) < 0
  · rw [if_pos c3] at H
    have c3b0 : decide ((wrap64 (a1 - (l0.length : Int))) < 0) = true := decide_eq_true c3
    clear c3
    obtain rfl := Option.some.inj H
    go_enter Try.func80, Try.ntmps80
    go_wp2
    go_ret
    exact ⟨by first | rfl | (simp; done) | (simp [*]; done), by repeat (first | exact Drawn0.refl _ | apply Drawn0.step)⟩
  · rw [if_neg c3] at H
    have c3b0 : decide ((wrap64 (a1 - (l0.length : Int))) < 0) = false := decide_eq_false c3
    clear c3
    obtain rfl := Option.some.inj H
    go_enter Try.func80, Try.ntmps80
    go_wp2
    go_ret
    exact ⟨by first | rfl | (simp; done) | (simp [*]; done), by repeat (first | exact Drawn0.refl _ | apply Drawn0.step)⟩


def laws_szImage.f (a0_0 : Int) (a0_1 : Int) (a0_2 : Int) (l0_3 : List Int) (a1 : Int) : Option (Int) := (laws_szIntS.f l0_3 a1).bind fun t21002 => (if t21002 < 0 then (some (-1)) else (some t21002))
set_option maxHeartbeats 8000000 in
set_option maxRecDepth 100000 in
theorem laws_szImage.calls (a0_0 : Int) (a0_1 : Int) (a0_2 : Int) (A0_3 : Option Addr) (c0_3 : Nat) (l0_3 : List Int) (a1 : Int) (r : Int) (w : World) (hr0_3 : Kd.C (Kd.int .i64) w A0_3 l0_3.length l0_3) (hc0_3 : l0_3.length ≤ c0_3) (h : laws_szImage.f a0_0 a0_1 a0_2 l0_3 a1 = some r) :
    Calls Try.prog 20 #[.agg #[.int .i64 a0_0, .int .i64 a0_1, .int .i64 a0_2, .slice A0_3 l0_3.length c0_3], .int .i64 a1] w fun e w' => e = .returned (.int .i64 r) ∧ Below w.heap.size w w' := by
  have hu24 := Try.underlying24
  have HR0_3 := Aside0.mk hr0_3
  have HC0_3 := Aside0.mk hc0_3
  clear hr0_3 hc0_3
  have HB := Aside0.mk (Below.refl w.heap.size w)
  have H : ((laws_szIntS.f l0_3 a1).bind fun t21002 => (if t21002 < 0 then (some (-1)) else (some t21002))) = some r := h
  clear h
  replace H := Option.bind_eq_some_iff.mp H
  obtain ⟨t21002, A30, H⟩ := H
  replace H : (if t21002 < 0 then (some (-1)) else (some t21002)) = some r := H
  have A3 := Aside0.mk A30
  clear A30
  by_cases c4 : t21002 < 0
  · rw [if_pos c4] at H
    have c4b0 : decide (t21002 < 0) = true := decide_eq_true c4
    clear c4
    obtain rfl := Option.some.inj H
    go_enter Try.func20, Try.ntmps20
    go_wp2_with (first | ((with_reducible refine gate_dst (N := 2) rfl ?_); refine box_event ?hg (N := 2) ?hd (cs := #[.int .i64 a0_0, .int .i64 a0_1, .int .i64 a0_2, .slice A0_3 l0_3.length c0_3]) (t := 24) ?hr ?_; (case hd => rfl); (case hg => rfl); (case hr => first | (go_simp; done) | (go_simp; rfl)); intro gb21001 hg w5 hbox hb; have n0_ := Aside0.mk (below_step (by repeat (first | (with_reducible first | exact HB.out | apply below_alloc | apply pw_below_drewN | apply below_drew1) | exact HB.out)) hb); have n1_ := Aside0.mk (hbox); have n2_ := Aside0.mk ((by rw [hg]; exact (below_size (by repeat (first | (with_reducible first | exact HB.out | apply below_alloc | apply pw_below_drewN | apply below_drew1) | exact HB.out))) : w.heap.size ≤ gb21001)); have n3_ := Aside0.mk ((by rw [hg]; exact (below_size (by repeat (first | (with_reducible first | exact HB.out | apply below_alloc | apply pw_below_drewN | apply below_drew1) | exact HB.out))) : w.heap.size ≤ gb21001)); clear HB; have HB := n0_; have BK21001 := n1_; have GW21001 := n2_; have GE21001 := n3_; clear n0_ n1_ n2_ n3_; clear hb hbox hg; have hcz6_0 : w5.cell? ⟨gb21001, 0, none⟩ = some (.int .i64 a0_0) := (blk_cell BK21001.out 0).trans rfl; have hcz6_1 : w5.cell? ⟨gb21001, 1, none⟩ = some (.int .i64 a0_1) := (blk_cell BK21001.out 1).trans rfl; have hcz6_2 : w5.cell? ⟨gb21001, 2, none⟩ = some (.int .i64 a0_2) := (blk_cell BK21001.out 2).trans rfl; have hcz6_3 : w5.cell? ⟨gb21001, 3, none⟩ = some (.slice A0_3 l0_3.length c0_3) := (blk_cell BK21001.out 3).trans rfl; have hfz6_0 := blk_frozen BK21001.out 0; have hfz6_1 := blk_frozen BK21001.out 1; have hfz6_2 := blk_frozen BK21001.out 2; have hfz6_3 := blk_frozen BK21001.out 3) | ((with_reducible refine gate_callee (f := 80) rfl ?_); refine goesL_ (some 8) rfl rfl Try.func80 (by kernel_rfl) rfl #[.slice A0_3 l0_3.length c0_3, .int .i64 a1] rfl (by (try simp only [List.map_toArray, List.map_cons, List.map_nil]); first | done | rfl | (simp only [List.length_drop, List.length_take]; rfl)) ?_; (with_reducible refine (laws_szIntS.calls _ _ l0_3 a1 t21002 _ ?side1 ?side2 A3.out).mono ?_); (case side1 => repeat (first | exact (Kd.C_below HR0_3.out HB.out) | (with_reducible refine Kd.C_alloc ?_ _) | (with_reducible refine Kd.C_drewN ?_ _) | (with_reducible refine Kd.C_drew ?_))); (case side2 => exact HC0_3.out); rintro e w' ⟨rfl, ⟨nd, rfl⟩⟩; refine ⟨_, rfl, ?_⟩))
    go_ret
    exact ⟨by first | rfl | (simp [errW_none, errW_some] <;> rfl) | (simp [*, errW_none, errW_some] <;> rfl), by repeat (first | (with_reducible first | exact HB.out | apply below_alloc | apply pw_below_drewN | apply below_drew1 | refine below_set ?_ GE21001.out) | exact HB.out)⟩
  · rw [if_neg c4] at H
    have c4b0 : decide (t21002 < 0) = false := decide_eq_false c4
    clear c4
    obtain rfl := Option.some.inj H
    go_enter Try.func20, Try.ntmps20
    go_wp2_with (first | ((with_reducible refine gate_dst (N := 2) rfl ?_); refine box_event ?hg (N := 2) ?hd (cs := #[.int .i64 a0_0, .int .i64 a0_1, .int .i64 a0_2, .slice A0_3 l0_3.length c0_3]) (t := 24) ?hr ?_; (case hd => rfl); (case hg => rfl); (case hr => first | (go_simp; done) | (go_simp; rfl)); intro gb21001 hg w7 hbox hb; have n0_ := Aside0.mk (below_step (by repeat (first | (with_reducible first | exact HB.out | apply below_alloc | apply pw_below_drewN | apply below_drew1) | exact HB.out)) hb); have n1_ := Aside0.mk (hbox); have n2_ := Aside0.mk ((by rw [hg]; exact (below_size (by repeat (first | (with_reducible first | exact HB.out | apply below_alloc | apply pw_below_drewN | apply below_drew1) | exact HB.out))) : w.heap.size ≤ gb21001)); have n3_ := Aside0.mk ((by rw [hg]; exact (below_size (by repeat (first | (with_reducible first | exact HB.out | apply below_alloc | apply pw_below_drewN | apply below_drew1) | exact HB.out))) : w.heap.size ≤ gb21001)); clear HB; have HB := n0_; have BK21001 := n1_; have GW21001 := n2_; have GE21001 := n3_; clear n0_ n1_ n2_ n3_; clear hb hbox hg; have hcz8_0 : w7.cell? ⟨gb21001, 0, none⟩ = some (.int .i64 a0_0) := (blk_cell BK21001.out 0).trans rfl; have hcz8_1 : w7.cell? ⟨gb21001, 1, none⟩ = some (.int .i64 a0_1) := (blk_cell BK21001.out 1).trans rfl; have hcz8_2 : w7.cell? ⟨gb21001, 2, none⟩ = some (.int .i64 a0_2) := (blk_cell BK21001.out 2).trans rfl; have hcz8_3 : w7.cell? ⟨gb21001, 3, none⟩ = some (.slice A0_3 l0_3.length c0_3) := (blk_cell BK21001.out 3).trans rfl; have hfz8_0 := blk_frozen BK21001.out 0; have hfz8_1 := blk_frozen BK21001.out 1; have hfz8_2 := blk_frozen BK21001.out 2; have hfz8_3 := blk_frozen BK21001.out 3) | ((with_reducible refine gate_callee (f := 80) rfl ?_); refine goesL_ (some 8) rfl rfl Try.func80 (by kernel_rfl) rfl #[.slice A0_3 l0_3.length c0_3, .int .i64 a1] rfl (by (try simp only [List.map_toArray, List.map_cons, List.map_nil]); first | done | rfl | (simp only [List.length_drop, List.length_take]; rfl)) ?_; (with_reducible refine (laws_szIntS.calls _ _ l0_3 a1 t21002 _ ?side1 ?side2 A3.out).mono ?_); (case side1 => repeat (first | exact (Kd.C_below HR0_3.out HB.out) | (with_reducible refine Kd.C_alloc ?_ _) | (with_reducible refine Kd.C_drewN ?_ _) | (with_reducible refine Kd.C_drew ?_))); (case side2 => exact HC0_3.out); rintro e w' ⟨rfl, ⟨nd, rfl⟩⟩; refine ⟨_, rfl, ?_⟩))
    go_ret
    exact ⟨by first | rfl | (simp [errW_none, errW_some] <;> rfl) | (simp [*, errW_none, errW_some] <;> rfl), by repeat (first | (with_reducible first | exact HB.out | apply below_alloc | apply pw_below_drewN | apply below_drew1 | refine below_set ?_ GE21001.out) | exact HB.out)⟩

end Go.Proofs.Ytnofkbbcbpjhfaa.Q
