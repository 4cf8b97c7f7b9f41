/- A part of the proof that the statement FnPatchImageTwiceSaid holds, under no condition of its own: A patch laid twice: the law FnPatchImageTwice over lists of numbers alone. -/
import Derived.Test.YtnofkbbcbpjhfaaCFnPatchImageTwice1
import Derived.Test.YtnofkbbcbpjhfaaCFnPatchImageTwice3
import Derived.Test.YtnofkbbcbpjhfaaCFnPatchImageTwice2
namespace Go.Proofs.Ytnofkbbcbpjhfaa.Q
open Go.RowKit Go.Proofs.YtnofkbbcbpjhfaaW.PrintWords Go.Proofs.YtnofkbbcbpjhfaaW.PrintLast Go.Proofs.YtnofkbbcbpjhfaaW.PrintMore
attribute [local go_sem] max2_int min2_int max_two min_two max_three min_three max_four min_four
set_option linter.unusedVariables false
set_option linter.unusedSimpArgs false
open Go.Proofs.YtnofkbbcbpjhfaaW.PrintWords.Aside0 (mk)
set_option maxHeartbeats 12000000
set_option maxRecDepth 100000
mutual
def spec_changed.l0 : Nat → List Bool → Int → Int → Int → Int → List Int → Int → Int → Int → List Int → Option ((List (S118)))
 | 0, _, _, _, _, _, _, _, _, _, _ => none
 | k + 1, x5, x6, x152002000, x152002001, x152002002, x152002003, x152003000, x152003001, x152003002, x152003003 => if x6 < x152002001 then (spec_changed.l1 k x5 x6 0 x152002000 x152002001 x152002002 x152002003 x152003000 x152003001 x152003002 x152003003) else ((spec_runsOf.f k x5).bind fun t152006 => (some t152006))
def spec_changed.l1 : Nat → List Bool → Int → Int → Int → Int → Int → List Int → Int → Int → Int → List Int → Option ((List (S118)))
 | 0, _, _, _, _, _, _, _, _, _, _, _ => none
 | k + 1, x5, x6, x7, x152002000, x152002001, x152002002, x152002003, x152003000, x152003001, x152003002, x152003003 => if x7 < x152002000 then ((spec_pixelAt.f x152002000 x152002001 x152002002 x152002003 x7 x6).bind fun t152009 => ((spec_pixelAt.f x152003000 x152003001 x152003002 x152003003 x7 x6).bind fun t152012 => ((spec_equalInts.f k t152009 t152012).bind fun t152015 => (if 0 ≤ (wrap64 ((wrap64 (x6 * 16)) + x7)) then (if (wrap64 ((wrap64 (x6 * 16)) + x7)) < (x5.length : Int) then (spec_changed.l1 k (x5.set ((wrap64 ((wrap64 (x6 * 16)) + x7)) : Int).toNat (!t152015)) x6 (wrap64 (x7 + 1)) x152002000 x152002001 x152002002 x152002003 x152003000 x152003001 x152003002 x152003003) else (none)) else (none))))) else (spec_changed.l0 k x5 (wrap64 (x6 + 1)) x152002000 x152002001 x152002002 x152002003 x152003000 x152003001 x152003002 x152003003)
end
def spec_changed.f (k : Nat) (a0_0 : Int) (a0_1 : Int) (a0_2 : Int) (l0_3 : List Int) (a1_0 : Int) (a1_1 : Int) (a1_2 : Int) (l1_3 : List Int) : Option ((List (S118))) := if 256 ≤ 281474976710656 then (spec_changed.l0 k (List.replicate 256 false) 0 a0_0 a0_1 a0_2 l0_3 a1_0 a1_1 a1_2 l1_3) else (none)
def spec_changed.T8 : Bool × List (List Nat × List Nat) := (true, [([], []), ([], []), ([1], [1]), ([], []), ([2, 3], [2, 3]), ([], []), ([], []), ([], []), ([5, 6, 7], [5, 6, 7]), ([], []), ([], []), ([], []), ([9, 10, 11, 8], [9, 10, 11]), ([8, 12, 12], [8, 12]), ([13], [13]), ([0, 4, 0, 1, 2, 3, 4, 5, 6, 7, 8, 9, 10, 11, 12, 13, 14], [0, 4]), ([15, 14, 13, 0, 1, 2, 3, 4, 5, 6, 7, 8, 9, 10, 11, 12, 13, 14], [14, 15])])
def spec_changed.B8 : List Nat := [0, 0, 2, 0, 14, 0, 0, 0, 224, 0, 0, 0, 4064, 8160, 16352, 32767, 65535]
theorem spec_changed.tab8 : rtab .any (opsOf Try.f151 8) = spec_changed.T8 := by kernel_rfl
theorem spec_changed.bits8 : waitsOk spec_changed.T8.2 spec_changed.B8 = true := by kernel_rfl
theorem spec_changed.calls (k : Nat) (a0_0 : Int) (a0_1 : Int) (a0_2 : Int) (A0_3 : Option Addr) (c0_3 : Nat) (l0_3 : List Int) (a1_0 : Int) (a1_1 : Int) (a1_2 : Int) (A1_3 : Option Addr) (c1_3 : Nat) (l1_3 : List Int) (r : List (S118)) (w : World) (hr0_3 : Kd.C (Kd.int .i64) w A0_3 l0_3.length l0_3) (hc0_3 : l0_3.length ≤ c0_3) (hr1_3 : Kd.C (Kd.int .i64) w A1_3 l1_3.length l1_3) (hc1_3 : l1_3.length ≤ c1_3) (h : spec_changed.f k a0_0 a0_1 a0_2 l0_3 a1_0 a1_1 a1_2 l1_3 = some r) :
  Calls Try.prog 151 #[.agg #[.int .i64 a0_0, .int .i64 a0_1, .int .i64 a0_2, .slice A0_3 l0_3.length c0_3], .agg #[.int .i64 a1_0, .int .i64 a1_1, .int .i64 a1_2, .slice A1_3 l1_3.length c1_3]] w fun e w' => ∃ v0_ : Value, e = .returned (v0_) ∧ Kd.R k118 118 w' w.heap.size (fun _ => True) v0_ r ∧ Below w.heap.size w w' := by
 have hu27 := Try.underlying27
 have HR0_3 := mk hr0_3
 have HC0_3 := mk hc0_3
 clear hr0_3 hc0_3
 have HR1_3 := mk hr1_3
 have HC1_3 := mk hc1_3
 clear hr1_3 hc1_3
 have HB := mk (Below.refl w.heap.size w)
 have H : (if 256 ≤ 281474976710656 then (spec_changed.l0 k (List.replicate 256 false) 0 a0_0 a0_1 a0_2 l0_3 a1_0 a1_1 a1_2 l1_3) else (none)) = some r := h
 clear h
 by_cases c3 : 256 ≤ 281474976710656
 ·rw [if_pos c3] at H
  have c3b0 := eq_true c3
  have c3b1 : decide (256 ≤ 281474976710656) = true := decide_eq_true c3
  clear c3
  obtain ⟨y152003, hy152003⟩ : ∃ y_ : List Bool, y_ = (List.replicate 256 false) := ⟨_, rfl⟩
  replace H : (spec_changed.l0 k y152003 0 a0_0 a0_1 a0_2 l0_3 a1_0 a1_1 a1_2 l1_3) = some r := by first | (rw [hy152003]; with_reducible exact H) | (have H2_ := (Option.bind_some _ _).symm.trans H; rw [hy152003]; with_reducible exact H2_) | (have H2_ := (Option.bind_some _ _).symm.trans H; with_reducible exact H2_) | with_reducible exact H | (rw [hy152003]; exact H) | exact H
  have Ny152003 := mk hy152003
  clear hy152003
  have H' := mk H
  clear H
  go_enter Try.func151, Try.ntmps151
  go_wp2_with (first | ((with_reducible refine gate_dst (N := 2) rfl ?_); refine box_event ?hg (N := 2) ?hd (cs := #[.int .i64 a0_0, .int .i64 a0_1, .int .i64 a0_2, .slice A0_3 l0_3.length c0_3]) (t := 27) ?hr ?_; (case hd => rfl); (case hg => rfl); (case hr => first | (go_simp; done) | (go_simp; rfl)); intro gb152001 hg w4 hbox hb; have n0_ := mk (below_step (by repeat (first | (with_reducible first | exact HB.out | apply below_alloc | apply pw_below_drewN | apply below_drew1) | exact HB.out)) hb); have n1_ := mk (hbox); have n2_ := mk ((by rw [hg]; exact (below_size (by repeat (first | (with_reducible first | exact HB.out | apply below_alloc | apply pw_below_drewN | apply below_drew1) | exact HB.out))) : w.heap.size ≤ gb152001)); have n3_ := mk ((by rw [hg]; exact (below_size (by repeat (first | (with_reducible first | exact HB.out | apply below_alloc | apply pw_below_drewN | apply below_drew1) | exact HB.out))) : w.heap.size ≤ gb152001)); clear HB; have HB := n0_; have BK152001 := n1_; have GW152001 := n2_; have GE152001 := n3_; clear n0_ n1_ n2_ n3_; clear hb hbox hg) | ((with_reducible refine gate_dst (N := 3) rfl ?_); refine box_event ?hg (N := 3) ?hd (cs := #[.int .i64 a1_0, .int .i64 a1_1, .int .i64 a1_2, .slice A1_3 l1_3.length c1_3]) (t := 27) ?hr ?_; (case hd => rfl); (case hg => rfl); (case hr => first | (go_simp; done) | (go_simp; rfl)); intro gb152002 hg w5 hbox hb; have n0_ := mk (blk_below (g := gb152001) (o := .cells #[.int .i64 a0_0, .int .i64 a0_1, .int .i64 a0_2, .slice A0_3 l0_3.length c0_3] 27 (0, 0)) (by (with_reducible repeat (first | refine blk_drewN ?_ _ | refine blk_drew ?_ | refine blk_alloc ?_ _)); exact BK152001.out) hb); have n1_ := mk (below_step (by repeat (first | (with_reducible first | exact HB.out | apply below_alloc | apply pw_below_drewN | apply below_drew1 | refine below_set ?_ GE152001.out) | exact HB.out)) hb); have n2_ := mk (hbox); have n3_ := mk ((by rw [hg]; exact (below_size (by repeat (first | (with_reducible first | exact HB.out | apply below_alloc | apply pw_below_drewN | apply below_drew1 | refine below_set ?_ GE152001.out) | exact HB.out))) : w.heap.size ≤ gb152002)); have n4_ := mk ((by rw [hg]; exact (below_size (by repeat (first | (with_reducible first | exact HB.out | apply below_alloc | apply pw_below_drewN | apply below_drew1 | refine below_set ?_ GE152001.out) | exact HB.out))) : w.heap.size ≤ gb152002)); have n5_ := mk ((by rw [hg]; exact Nat.ne_of_lt (blk_lt (g := gb152001) (o := .cells #[.int .i64 a0_0, .int .i64 a0_1, .int .i64 a0_2, .slice A0_3 l0_3.length c0_3] 27 (0, 0)) (by (with_reducible repeat (first | refine blk_drewN ?_ _ | refine blk_drew ?_ | refine blk_alloc ?_ _)); exact BK152001.out)) : gb152001 ≠ gb152002)); have n6_ := mk ((by rw [hg]; exact Nat.ne_of_gt (blk_lt (g := gb152001) (o := .cells #[.int .i64 a0_0, .int .i64 a0_1, .int .i64 a0_2, .slice A0_3 l0_3.length c0_3] 27 (0, 0)) (by (with_reducible repeat (first | refine blk_drewN ?_ _ | refine blk_drew ?_ | refine blk_alloc ?_ _)); exact BK152001.out)) : gb152002 ≠ gb152001)); clear BK152001; clear HB; have BK152001 := n0_; have HB := n1_; have BK152002 := n2_; have GW152002 := n3_; have GE152002 := n4_; have NB152001_152002 := n5_; have NB152002_152001 := n6_; clear n0_ n1_ n2_ n3_ n4_ n5_ n6_; clear hb hbox hg) | ((with_reducible refine gate_dst (N := 8) rfl ?_); refine Kd.R_make Kd.bool _ 4 rfl (N := 8) rfl 162 _ _ rfl 256 rfl rfl Try.underlying162 (.bool false) 1 info4 rfl (by decide) (by omega) false (ok := fun _ => True) (okp := fun _ => True) rfl (fun _ hk => hk) trivial (by omega) (by omega) (Below.refl _ _) (Nat.le_refl _) ?_; intro v152004 w6 ho7 hb hg_ hnew_; clear hg_ hnew_; (first | rw [← Ny152003.out] at ho7 | (simp only [Int.reduceToNat] at ho7; rw [← Ny152003.out] at ho7)); have n0_ := mk (Kd.R_lower ho7 (below_size (by repeat (first | (with_reducible first | exact HB.out | apply below_alloc | apply pw_below_drewN | apply below_drew1 | refine below_set ?_ GE152001.out | refine below_set ?_ GE152002.out) | exact HB.out)))); have n1_ := mk (blk_below (g := gb152001) (o := .cells #[.int .i64 a0_0, .int .i64 a0_1, .int .i64 a0_2, .slice A0_3 l0_3.length c0_3] 27 (0, 0)) (by (with_reducible repeat (first | refine blk_drewN ?_ _ | refine blk_drew ?_ | refine blk_alloc ?_ _)); exact BK152001.out) hb); have n2_ := mk (blk_below (g := gb152002) (o := .cells #[.int .i64 a1_0, .int .i64 a1_1, .int .i64 a1_2, .slice A1_3 l1_3.length c1_3] 27 (0, 0)) (by (with_reducible repeat (first | refine blk_drewN ?_ _ | refine blk_drew ?_ | refine blk_alloc ?_ _)); exact BK152002.out) hb); have n3_ := mk (below_step (by repeat (first | (with_reducible first | exact HB.out | apply below_alloc | apply pw_below_drewN | apply below_drew1 | refine below_set ?_ GE152001.out | refine below_set ?_ GE152002.out) | exact HB.out)) hb); clear BK152001; clear BK152002; clear HB; have HO152005 := n0_; have BK152001 := n1_; have BK152002 := n2_; have HB := n3_; clear n0_ n1_ n2_ n3_; clear hb ho7))
  go_loopg [6] k (fun kq v6 w' => ∃ (x5_1 : List Bool) (x6_1 : Int), v6 = .int .i64 x6_1 ∧ Aside0 (spec_changed.l0 kq x5_1 x6_1 a0_0 a0_1 a0_2 l0_3 a1_0 a1_1 a1_2 l1_3 = some r) ∧ Aside0 (kq ≤ k) ∧ Aside0 (Kd.R Kd.bool 4 w' w.heap.size (fun _ => True) v152004 x5_1) ∧ Aside0 (w'.heap[gb152001]? = some (.cells #[.int .i64 a0_0, .int .i64 a0_1, .int .i64 a0_2, (.slice A0_3 l0_3.length c0_3)] 27 (0, 0))) ∧ Aside0 (w'.heap[gb152002]? = some (.cells #[.int .i64 a1_0, .int .i64 a1_1, .int .i64 a1_2, (.slice A1_3 l1_3.length c1_3)] 27 (0, 0))) ∧ Aside0 (Below w.heap.size w w'))
  case atStart => exact ⟨(y152003), (0), (by first | rfl | (simp; done) | (simp [*]; done)), H', ⟨Nat.le_refl _⟩, ⟨by (with_reducible repeat (first | apply Kd.R_alloc | apply Kd.R_drewN | apply Kd.R_drew)); exact HO152005.out⟩, ⟨by (with_reducible repeat (first | refine blk_drewN ?_ _ | refine blk_drew ?_ | refine blk_alloc ?_ _)); exact BK152001.out⟩, ⟨by (with_reducible repeat (first | refine blk_drewN ?_ _ | refine blk_drew ?_ | refine blk_alloc ?_ _)); exact BK152002.out⟩, ⟨by repeat (first | (with_reducible first | exact HB.out | apply below_alloc | apply pw_below_drewN | apply below_drew1 | refine below_set ?_ GE152001.out | refine below_set ?_ GE152002.out) | exact HB.out)⟩⟩
  case round =>
   clear H'
   try clear c1
   try clear p2
   try clear c3
   try clear c3b0
   try clear c3b1
   obtain ⟨x5_1, x6_1, rfl, HA, HK1, HO_5, BK152001, BK152002, HB⟩ := hrel
   cases gk with
   | zero => exact absurd HA.out (by simp [spec_changed.l0])
   | succ k1 =>
    have H := HA.out
    clear HA
    simp only [spec_changed.l0] at H
    by_cases c8 : x6_1 < a0_1
    ·rw [if_pos c8] at H
     have c8b0 : decide (x6_1 < a0_1) = true := decide_eq_true c8
     clear c8
     have H' := mk H
     clear H
     have hnb9 := NB152001_152002.out
     have hnc9 := NB152002_152001.out
     have hcz10_0 : wr.cell? ⟨gb152001, 0, none⟩ = some (.int .i64 a0_0) := (blk_cell BK152001.out 0).trans rfl
     have hcz10_1 : wr.cell? ⟨gb152001, 1, none⟩ = some (.int .i64 a0_1) := (blk_cell BK152001.out 1).trans rfl
     have hcz10_2 : wr.cell? ⟨gb152001, 2, none⟩ = some (.int .i64 a0_2) := (blk_cell BK152001.out 2).trans rfl
     have hcz10_3 : wr.cell? ⟨gb152001, 3, none⟩ = some (.slice A0_3 l0_3.length c0_3) := (blk_cell BK152001.out 3).trans rfl
     have hfz10_0 := blk_frozen BK152001.out 0
     have hfz10_1 := blk_frozen BK152001.out 1
     have hfz10_2 := blk_frozen BK152001.out 2
     have hfz10_3 := blk_frozen BK152001.out 3
     go_wp2
     go_loopg [7] k1 (fun kq v7 w' => ∃ (x5_2 : List Bool) (x7_2 : Int), v7 = .int .i64 x7_2 ∧ Aside0 (spec_changed.l1 kq x5_2 x6_1 x7_2 a0_0 a0_1 a0_2 l0_3 a1_0 a1_1 a1_2 l1_3 = some r) ∧ Aside0 (kq ≤ k1) ∧ Aside0 (Kd.R Kd.bool 4 w' w.heap.size (fun _ => True) v152004 x5_2) ∧ Aside0 (w'.heap[gb152001]? = some (.cells #[.int .i64 a0_0, .int .i64 a0_1, .int .i64 a0_2, (.slice A0_3 l0_3.length c0_3)] 27 (0, 0))) ∧ Aside0 (w'.heap[gb152002]? = some (.cells #[.int .i64 a1_0, .int .i64 a1_1, .int .i64 a1_2, (.slice A1_3 l1_3.length c1_3)] 27 (0, 0))) ∧ Aside0 (Below w.heap.size w w'))
     case atStart => exact ⟨(x5_1), (0), (by first | rfl | (simp; done) | (simp [*]; done)), H', ⟨Nat.le_refl _⟩, ⟨by (with_reducible repeat (first | apply Kd.R_alloc | apply Kd.R_drewN | apply Kd.R_drew)); exact HO_5.out⟩, ⟨by (with_reducible repeat (first | refine blk_drewN ?_ _ | refine blk_drew ?_ | refine blk_alloc ?_ _)); exact BK152001.out⟩, ⟨by (with_reducible repeat (first | refine blk_drewN ?_ _ | refine blk_drew ?_ | refine blk_alloc ?_ _)); exact BK152002.out⟩, ⟨by repeat (first | (with_reducible first | exact HB.out | apply below_alloc | apply pw_below_drewN | apply below_drew1 | refine below_set ?_ GE152001.out | refine below_set ?_ GE152002.out) | exact HB.out)⟩⟩
     case round =>
      clear H'
      try clear c1
      try clear p2
      try clear c3
      try clear c3b0
      try clear c3b1
      try clear c8
      try clear c8b0
      try clear c9
      try clear hcz10_0
      try clear hcz10_1
      try clear hcz10_2
      try clear hcz10_3
      try clear hfz10_0
      try clear hfz10_1
      try clear hfz10_2
      try clear hfz10_3
      try clear p2
      obtain ⟨x5_2, x7_2, rfl, HA, HK2, HO_5, BK152001, BK152002, HB⟩ := hrel
      cases gk with
      | zero => exact absurd HA.out (by simp [spec_changed.l1])
      | succ k2 =>
       have H := HA.out
       clear HA
       simp only [spec_changed.l1] at H
       by_cases c11 : x7_2 < a0_0
       ·rw [if_pos c11] at H
        have c11b0 : decide (x7_2 < a0_0) = true := decide_eq_true c11
        clear c11
        replace H := Option.bind_eq_some_iff.mp H
        obtain ⟨t152009, A120, H⟩ := H
        replace H : ((spec_pixelAt.f a1_0 a1_1 a1_2 l1_3 x7_2 x6_1).bind fun t152012 => ((spec_equalInts.f k2 t152009 t152012).bind fun t152015 => (if 0 ≤ (wrap64 ((wrap64 (x6_1 * 16)) + x7_2)) then (if (wrap64 ((wrap64 (x6_1 * 16)) + x7_2)) < (x5_2.length : Int) then (spec_changed.l1 k2 (x5_2.set ((wrap64 ((wrap64 (x6_1 * 16)) + x7_2)) : Int).toNat (!t152015)) x6_1 (wrap64 (x7_2 + 1)) a0_0 a0_1 a0_2 l0_3 a1_0 a1_1 a1_2 l1_3) else (none)) else (none)))) = some r := H
        have A12 := mk A120
        clear A120
        replace H := Option.bind_eq_some_iff.mp H
        obtain ⟨t152012, A130, H⟩ := H
        replace H : ((spec_equalInts.f k2 t152009 t152012).bind fun t152015 => (if 0 ≤ (wrap64 ((wrap64 (x6_1 * 16)) + x7_2)) then (if (wrap64 ((wrap64 (x6_1 * 16)) + x7_2)) < (x5_2.length : Int) then (spec_changed.l1 k2 (x5_2.set ((wrap64 ((wrap64 (x6_1 * 16)) + x7_2)) : Int).toNat (!t152015)) x6_1 (wrap64 (x7_2 + 1)) a0_0 a0_1 a0_2 l0_3 a1_0 a1_1 a1_2 l1_3) else (none)) else (none))) = some r := H
        have A13 := mk A130
        clear A130
        replace H := Option.bind_eq_some_iff.mp H
        obtain ⟨t152015, A140, H⟩ := H
        replace H : (if 0 ≤ (wrap64 ((wrap64 (x6_1 * 16)) + x7_2)) then (if (wrap64 ((wrap64 (x6_1 * 16)) + x7_2)) < (x5_2.length : Int) then (spec_changed.l1 k2 (x5_2.set ((wrap64 ((wrap64 (x6_1 * 16)) + x7_2)) : Int).toNat (!t152015)) x6_1 (wrap64 (x7_2 + 1)) a0_0 a0_1 a0_2 l0_3 a1_0 a1_1 a1_2 l1_3) else (none)) else (none)) = some r := H
        have A14 := mk A140
        clear A140
        obtain ⟨ji15, hji15⟩ : ∃ j_ : Int, (wrap64 ((wrap64 (x6_1 * 16)) + x7_2)) = j_ := ⟨_, rfl⟩
        replace H : (if 0 ≤ (ji15) then (if (ji15) < (x5_2.length : Int) then (spec_changed.l1 k2 (x5_2.set ((ji15) : Int).toNat (!t152015)) x6_1 (wrap64 (x7_2 + 1)) a0_0 a0_1 a0_2 l0_3 a1_0 a1_1 a1_2 l1_3) else (none)) else (none)) = some r := by first | (rw [hji15] at H; exact H) | (simp only [hji15] at H ⊢; exact H)
        (try rw [hji15] at A12)
        (try rw [hji15] at A13)
        (try rw [hji15] at A14)
        have hji15w : (IntKind.i64.wrap ((wrap64 (x6_1 * 16)) + x7_2)) = ji15 := (i64_w _).trans hji15
        by_cases c16 : 0 ≤ (ji15)
        ·rw [if_pos c16] at H
         have c16b0 : decide (0 ≤ (ji15)) = true := decide_eq_true c16
         clear c16
         by_cases c17 : (ji15) < (x5_2.length : Int)
         ·rw [if_pos c17] at H
          have c17b0 : decide ((ji15) < (x5_2.length : Int)) = true := decide_eq_true c17
          clear c17
          obtain ⟨y152016, hy152016⟩ : ∃ y_ : List Bool, y_ = (x5_2.set ((ji15) : Int).toNat (!t152015)) := ⟨_, rfl⟩
          replace H : (spec_changed.l1 k2 y152016 x6_1 (wrap64 (x7_2 + 1)) a0_0 a0_1 a0_2 l0_3 a1_0 a1_1 a1_2 l1_3) = some r := by first | (rw [hy152016]; with_reducible exact H) | (have H2_ := (Option.bind_some _ _).symm.trans H; rw [hy152016]; with_reducible exact H2_) | (have H2_ := (Option.bind_some _ _).symm.trans H; with_reducible exact H2_) | with_reducible exact H | (rw [hy152016]; exact H) | exact H
          have Ny152016 := mk hy152016
          clear hy152016
          have H' := mk H
          clear H
          have hnb19 := NB152001_152002.out
          have hnc19 := NB152002_152001.out
          have hcz20_0 : wr.cell? ⟨gb152001, 0, none⟩ = some (.int .i64 a0_0) := (blk_cell BK152001.out 0).trans rfl
          have hcz20_1 : wr.cell? ⟨gb152001, 1, none⟩ = some (.int .i64 a0_1) := (blk_cell BK152001.out 1).trans rfl
          have hcz20_2 : wr.cell? ⟨gb152001, 2, none⟩ = some (.int .i64 a0_2) := (blk_cell BK152001.out 2).trans rfl
          have hcz20_3 : wr.cell? ⟨gb152001, 3, none⟩ = some (.slice A0_3 l0_3.length c0_3) := (blk_cell BK152001.out 3).trans rfl
          have hfz20_0 := blk_frozen BK152001.out 0
          have hfz20_1 := blk_frozen BK152001.out 1
          have hfz20_2 := blk_frozen BK152001.out 2
          have hfz20_3 := blk_frozen BK152001.out 3
          try go_wp2
          have n0_ := mk (Kd.R_drew HO_5.out)
          have n1_ := mk (blk_drew BK152001.out)
          have n2_ := mk (blk_drew BK152002.out)
          have n3_ := mk (below_drew1 HB.out)
          clear HO_5
          clear BK152001
          clear BK152002
          clear HB
          have HO_5 := n0_
          have BK152001 := n1_
          have BK152002 := n2_
          have HB := n3_
          clear n0_ n1_ n2_ n3_
          refine start_ (n := 17) (S := fun w' => w'.cell? ⟨gb152001, 0, none⟩ = some (.int .i64 a0_0) ∧ w'.cell? ⟨gb152001, 1, none⟩ = some (.int .i64 a0_1) ∧ w'.cell? ⟨gb152001, 2, none⟩ = some (.int .i64 a0_2) ∧ w'.cell? ⟨gb152001, 3, none⟩ = some (.slice A0_3 l0_3.length c0_3) ∧ w'.cell? ⟨gb152002, 0, none⟩ = some (.int .i64 a1_0) ∧ w'.cell? ⟨gb152002, 1, none⟩ = some (.int .i64 a1_1) ∧ w'.cell? ⟨gb152002, 2, none⟩ = some (.int .i64 a1_2) ∧ w'.cell? ⟨gb152002, 3, none⟩ = some (.slice A1_3 l1_3.length c1_3)) (ds := [16]) #[false, false, false, false, false, false, false, false, false, false, false, false, false, false, false, false, false] (by kernel_rfl) rfl rfl ⟨(blk_cell BK152001.out 0).trans rfl, (blk_cell BK152001.out 1).trans rfl, (blk_cell BK152001.out 2).trans rfl, (blk_cell BK152001.out 3).trans rfl, (blk_cell BK152002.out 0).trans rfl, (blk_cell BK152002.out 1).trans rfl, (blk_cell BK152002.out 2).trans rfl, (blk_cell BK152002.out 3).trans rfl⟩ (fun hHeld => ?_); refine with_tabW spec_changed.tab8 spec_changed.bits8 (fun HT_ HW_ => ?_)
          generalize wr.drew = w21 at HO_5 BK152001 BK152002 HB hHeld ⊢
          refine pure_ (i := 0) (N := some 21) (v := ?_) (a' := ?_) #[true, false, false, false, false, false, false, false, false, false, false, false, false, false, false, false, false] rfl rfl (any_of HT_.out (by kernel_rfl)) (fun _ _ _ h => h) (Or.inl ⟨by rfl, ?_⟩) ?_ ?_
          rotate_left
          ·intro w'
           go_simp
           with_reducible rfl
          rotate_left
          ·simp only [Act.put, List.setIfInBounds_toArray, List.set_cons_zero, List.set_cons_succ, i64_w, i32_w]
           rfl
          refine pure_ (i := 1) (N := some 22) (v := ?_) (a' := ?_) #[true, true, false, false, false, false, false, false, false, false, false, false, false, false, false, false, false] rfl rfl (any_of HT_.out (by kernel_rfl)) (fun _ _ _ h => h) (Or.inl ⟨by rfl, ?_⟩) ?_ ?_
          rotate_left
          ·intro w'
           go_simp
           with_reducible rfl
          rotate_left
          ·simp only [Act.put, List.setIfInBounds_toArray, List.set_cons_zero, List.set_cons_succ, i64_w, i32_w]
           rfl
          refine pure_ (i := 2) (N := some 23) (v := ?_) (a' := ?_) #[true, true, true, false, false, false, false, false, false, false, false, false, false, false, false, false, false] rfl rfl (any_of HT_.out (by kernel_rfl)) (fun _ _ _ h => h) (Or.inl ⟨by rfl, ?_⟩) ?_ ?_
          rotate_left
          ·intro w'
           go_simp
           with_reducible rfl
          rotate_left
          ·simp only [Act.put, List.setIfInBounds_toArray, List.set_cons_zero, List.set_cons_succ, i64_w, i32_w]
           rfl
          refine pure_ (i := 3) (N := some 24) (v := ?_) (a' := ?_) #[true, true, true, true, false, false, false, false, false, false, false, false, false, false, false, false, false] rfl rfl (any_of HT_.out (by kernel_rfl)) (fun _ _ _ h => h) (Or.inl ⟨by rfl, ?_⟩) ?_ ?_
          rotate_left
          ·intro w'
           go_simp
           with_reducible rfl
          rotate_left
          ·simp only [Act.put, List.setIfInBounds_toArray, List.set_cons_zero, List.set_cons_succ, i64_w, i32_w]
           rfl
          refine pure_ (i := 4) (N := some 25) (v := ?_) (a' := ?_) #[true, true, true, true, true, false, false, false, false, false, false, false, false, false, false, false, false] rfl rfl (any_of HT_.out (by kernel_rfl)) (fun _ _ _ h => h) (Or.inl ⟨by rfl, ?_⟩) ?_ ?_
          rotate_left
          ·intro w'
           go_simp
           with_reducible rfl
          rotate_left
          ·simp only [Act.put, List.setIfInBounds_toArray, List.set_cons_zero, List.set_cons_succ, i64_w, i32_w]
           rfl
          refine pure_ (i := 6) (N := some 27) (v := ?_) (a' := ?_) #[true, true, true, true, true, false, true, false, false, false, false, false, false, false, false, false, false] rfl rfl (any_of HT_.out (by kernel_rfl)) (fun _ _ _ h => h) (Or.inl ⟨by rfl, ?_⟩) ?_ ?_
          rotate_left
          ·intro w'
           go_simp
           with_reducible rfl
          rotate_left
          ·simp only [Act.put, List.setIfInBounds_toArray, List.set_cons_zero, List.set_cons_succ, i64_w, i32_w]
           rfl
          refine pure_ (i := 7) (N := some 28) (v := ?_) (a' := ?_) #[true, true, true, true, true, false, true, true, false, false, false, false, false, false, false, false, false] rfl rfl (any_of HT_.out (by kernel_rfl)) (fun _ _ _ h => h) (Or.inl ⟨by rfl, ?_⟩) ?_ ?_
          rotate_left
          ·intro w'
           go_simp
           with_reducible rfl
          rotate_left
          ·simp only [Act.put, List.setIfInBounds_toArray, List.set_cons_zero, List.set_cons_succ, i64_w, i32_w]
           rfl
          refine pure_ (i := 10) (N := some 31) (v := ?_) (a' := ?_) #[true, true, true, true, true, false, true, true, false, false, true, false, false, false, false, false, false] rfl rfl (any_of HT_.out (by kernel_rfl)) (fun _ _ _ h => h) (Or.inl ⟨by rfl, ?_⟩) ?_ ?_
          rotate_left
          ·intro w'
           go_simp
           with_reducible rfl
          rotate_left
          ·simp only [Act.put, List.setIfInBounds_toArray, List.set_cons_zero, List.set_cons_succ, i64_w, i32_w]
           rfl
          refine pure_ (i := 11) (N := some 32) (v := ?_) (a' := ?_) #[true, true, true, true, true, false, true, true, false, false, true, true, false, false, false, false, false] rfl rfl (any_of HT_.out (by kernel_rfl)) (fun _ _ _ h => h) (Or.inl ⟨by rfl, ?_⟩) ?_ ?_
          rotate_left
          ·intro w'
           go_simp
           with_reducible rfl
          rotate_left
          ·simp only [Act.put, List.setIfInBounds_toArray, List.set_cons_zero, List.set_cons_succ, i64_w, i32_w]
           rfl
          refine take_ (i := 5) (N := some 26) (v := ?_) (a' := ?_) #[true, true, true, true, true, true, true, true, false, false, true, true, false, false, false, false, false] rfl rfl (take_ofW HT_.out HW_.out (by kernel_rfl)) (fun _ _ _ h => h) (Or.inl ⟨by rfl, ?_⟩) hHeld ?_ ?_
          rotate_left
          ·rintro w' ⟨s0, s1, s2, s3, s4, s5, s6, s7⟩
           go_simp
           with_reducible rfl
          rotate_left
          ·simp only [Act.put, List.setIfInBounds_toArray, List.set_cons_zero, List.set_cons_succ, i64_w, i32_w]
           rfl
          refine take_ (i := 9) (N := some 30) (v := ?_) (a' := ?_) #[true, true, true, true, true, true, true, true, false, true, true, true, false, false, false, false, false] rfl rfl (take_ofW HT_.out HW_.out (by kernel_rfl)) (fun _ _ _ h => h) (Or.inl ⟨by rfl, ?_⟩) hHeld ?_ ?_
          rotate_left
          ·rintro w' ⟨s0, s1, s2, s3, s4, s5, s6, s7⟩
           go_simp
           with_reducible rfl
          rotate_left
          ·simp only [Act.put, List.setIfInBounds_toArray, List.set_cons_zero, List.set_cons_succ, i64_w, i32_w]
           rfl
          refine one_ (i := 8) (N := some 29) #[true, true, true, true, true, true, true, true, true, true, true, true, false, false, false, false, false] rfl rfl (one_of HT_.out (by kernel_rfl)) (by decide) (fun K hK => ?_)
          refine goes_ Try.func149 (by kernel_rfl) rfl #[.agg #[.int .i64 a0_0, .int .i64 a0_1, .int .i64 a0_2, .slice A0_3 l0_3.length c0_3], .int .i64 x7_2, .int .i64 x6_1] (by rfl) rfl rfl (by (try simp only [List.map_toArray, List.map_cons, List.map_nil]); first | done | rfl | (simp only [List.length_drop, List.length_take]; rfl)) ?_
          with_reducible refine (spec_pixelAt.calls a0_0 a0_1 a0_2 _ _ l0_3 x7_2 x6_1 t152009 _ ?side1 ?side2 A12.out).mono ?_
          (case side1 => repeat (first | exact (Kd.C_below HR0_3.out HB.out) | (with_reducible refine Kd.C_alloc ?_ _) | (with_reducible refine Kd.C_drewN ?_ _) | (with_reducible refine Kd.C_drew ?_)))
          (case side2 => exact HC0_3.out)
          rintro e w22 ⟨v152010, rfl, ho0, hb⟩
          refine ⟨_, rfl, ?_⟩
          have n0_ := mk (Kd.R_below (by (with_reducible repeat (first | apply Kd.R_alloc | apply Kd.R_drewN | apply Kd.R_drew)); exact HO_5.out) hb)
          have n1_ := mk (Kd.R_lower ho0 (below_size (by repeat (first | (with_reducible first | exact HB.out | apply below_alloc | apply pw_below_drewN | apply below_drew1 | refine below_set ?_ GE152001.out | refine below_set ?_ GE152002.out) | exact HB.out))))
          have n2_ := mk (blk_below (g := gb152001) (o := .cells #[.int .i64 a0_0, .int .i64 a0_1, .int .i64 a0_2, .slice A0_3 l0_3.length c0_3] 27 (0, 0)) (by (with_reducible repeat (first | refine blk_drewN ?_ _ | refine blk_drew ?_ | refine blk_alloc ?_ _)); exact BK152001.out) hb)
          have n3_ := mk (blk_below (g := gb152002) (o := .cells #[.int .i64 a1_0, .int .i64 a1_1, .int .i64 a1_2, .slice A1_3 l1_3.length c1_3] 27 (0, 0)) (by (with_reducible repeat (first | refine blk_drewN ?_ _ | refine blk_drew ?_ | refine blk_alloc ?_ _)); exact BK152002.out) hb)
          have n4_ := mk (below_step (by repeat (first | (with_reducible first | exact HB.out | apply below_alloc | apply pw_below_drewN | apply below_drew1 | refine below_set ?_ GE152001.out | refine below_set ?_ GE152002.out) | exact HB.out)) hb)
          clear HO_5
          clear BK152001
          clear BK152002
          clear HB
          have HO_5 := n0_
          have HO152011 := n1_
          have BK152001 := n2_
          have BK152002 := n3_
          have HB := n4_
          clear n0_ n1_ n2_ n3_ n4_
          (try clear hb)
          (try clear hb2)
          (try clear hk)
          (try clear hi)
          (try clear ho0)
          refine hK.out _ _ ⟨(blk_cell BK152001.out 0).trans rfl, (blk_cell BK152001.out 1).trans rfl, (blk_cell BK152001.out 2).trans rfl, (blk_cell BK152001.out 3).trans rfl, (blk_cell BK152002.out 0).trans rfl, (blk_cell BK152002.out 1).trans rfl, (blk_cell BK152002.out 2).trans rfl, (blk_cell BK152002.out 3).trans rfl⟩ (fun hHeld => ?_)
          clear hK K
          refine norm_ (a' := ?_) ?_ ?_
          rotate_left
          ·show Act.put _ (some 29) _ = _
           simp only [Act.put, List.setIfInBounds_toArray, List.set_cons_zero, List.set_cons_succ, i64_w, i32_w]
           rfl
          refine one_ (i := 12) (N := some 33) #[true, true, true, true, true, true, true, true, true, true, true, true, true, false, false, false, false] rfl rfl (one_of HT_.out (by kernel_rfl)) (by decide) (fun K hK => ?_)
          refine goes_ Try.func149 (by kernel_rfl) rfl #[.agg #[.int .i64 a1_0, .int .i64 a1_1, .int .i64 a1_2, .slice A1_3 l1_3.length c1_3], .int .i64 x7_2, .int .i64 x6_1] (by rfl) rfl rfl (by (try simp only [List.map_toArray, List.map_cons, List.map_nil]); first | done | rfl | (simp only [List.length_drop, List.length_take]; rfl)) ?_
          with_reducible refine (spec_pixelAt.calls a1_0 a1_1 a1_2 _ _ l1_3 x7_2 x6_1 t152012 _ ?side1 ?side2 A13.out).mono ?_
          (case side1 => repeat (first | exact (Kd.C_below HR1_3.out HB.out) | (with_reducible refine Kd.C_alloc ?_ _) | (with_reducible refine Kd.C_drewN ?_ _) | (with_reducible refine Kd.C_drew ?_)))
          (case side2 => exact HC1_3.out)
          rintro e w23 ⟨v152013, rfl, ho0, hb⟩
          refine ⟨_, rfl, ?_⟩
          have n0_ := mk (Kd.R_below (by (with_reducible repeat (first | apply Kd.R_alloc | apply Kd.R_drewN | apply Kd.R_drew)); exact HO_5.out) hb)
          have n1_ := mk (Kd.R_elder' (by (with_reducible repeat (first | apply Kd.R_alloc | apply Kd.R_drewN | apply Kd.R_drew)); exact HO152011.out) (Kd.R_base ho0) hb)
          have n2_ := mk (Kd.R_lower (Kd.R_new' ho0 (Kd.R_lt (by (with_reducible repeat (first | apply Kd.R_alloc | apply Kd.R_drewN | apply Kd.R_drew)); exact HO152011.out))) (below_size (by repeat (first | (with_reducible first | exact HB.out | apply below_alloc | apply pw_below_drewN | apply below_drew1 | refine below_set ?_ GE152001.out | refine below_set ?_ GE152002.out) | exact HB.out))))
          have n3_ := mk (blk_below (g := gb152001) (o := .cells #[.int .i64 a0_0, .int .i64 a0_1, .int .i64 a0_2, .slice A0_3 l0_3.length c0_3] 27 (0, 0)) (by (with_reducible repeat (first | refine blk_drewN ?_ _ | refine blk_drew ?_ | refine blk_alloc ?_ _)); exact BK152001.out) hb)
          have n4_ := mk (blk_below (g := gb152002) (o := .cells #[.int .i64 a1_0, .int .i64 a1_1, .int .i64 a1_2, .slice A1_3 l1_3.length c1_3] 27 (0, 0)) (by (with_reducible repeat (first | refine blk_drewN ?_ _ | refine blk_drew ?_ | refine blk_alloc ?_ _)); exact BK152002.out) hb)
          have n5_ := mk (below_step (by repeat (first | (with_reducible first | exact HB.out | apply below_alloc | apply pw_below_drewN | apply below_drew1 | refine below_set ?_ GE152001.out | refine below_set ?_ GE152002.out) | exact HB.out)) hb)
          clear HO_5
          clear HO152011
          clear BK152001
          clear BK152002
          clear HB
          have HO_5 := n0_
          have HO152011 := n1_
          have HO152014 := n2_
          have BK152001 := n3_
          have BK152002 := n4_
          have HB := n5_
          clear n0_ n1_ n2_ n3_ n4_ n5_
          (try clear hb)
          (try clear hb2)
          (try clear hk)
          (try clear hi)
          (try clear ho0)
          obtain ⟨Ao24, co24, eo24⟩ := Kd.R_slice HO152011.out
          (first | subst eo24 | (injection eo24 with f1_ f2_ f3_; have f4_ := f1_.symm; have f5_ := f3_.symm; clear f1_ f2_ f3_; subst f4_; subst f5_))
          obtain ⟨Ao25, co25, eo25⟩ := Kd.R_slice HO152014.out
          (first | subst eo25 | (injection eo25 with f1_ f2_ f3_; have f4_ := f1_.symm; have f5_ := f3_.symm; clear f1_ f2_ f3_; subst f4_; subst f5_))
          refine hK.out _ _ ⟨(blk_cell BK152001.out 0).trans rfl, (blk_cell BK152001.out 1).trans rfl, (blk_cell BK152001.out 2).trans rfl, (blk_cell BK152001.out 3).trans rfl, (blk_cell BK152002.out 0).trans rfl, (blk_cell BK152002.out 1).trans rfl, (blk_cell BK152002.out 2).trans rfl, (blk_cell BK152002.out 3).trans rfl⟩ (fun hHeld => ?_)
          clear hK K
          refine norm_ (a' := ?_) ?_ ?_
          rotate_left
          ·show Act.put _ (some 33) _ = _
           simp only [Act.put, List.setIfInBounds_toArray, List.set_cons_zero, List.set_cons_succ, i64_w, i32_w]
           rfl
          refine one_ (i := 13) (N := some 34) #[true, true, true, true, true, true, true, true, true, true, true, true, true, true, false, false, false] rfl rfl (one_of HT_.out (by kernel_rfl)) (by decide) (fun K hK => ?_)
          refine goes_ Try.func161 (by kernel_rfl) rfl #[.slice Ao24 t152009.length co24, .slice Ao25 t152012.length co25] (by rfl) rfl rfl (by (try simp only [List.map_toArray, List.map_cons, List.map_nil]); first | done | rfl | (simp only [List.length_drop, List.length_take]; rfl)) ?_
          with_reducible refine (spec_equalInts.calls k2 _ _ t152009 _ _ t152012 t152015 _ ?side1 ?side2 ?side3 ?side4 A14.out).mono ?_
          (case side1 => repeat (first | exact (Kd.R_reads' HO152011.out).2.2 | (with_reducible refine Kd.C_alloc ?_ _) | (with_reducible refine Kd.C_drewN ?_ _) | (with_reducible refine Kd.C_drew ?_)))
          (case side2 => exact (Kd.R_reads' HO152011.out).2.1)
          (case side3 => repeat (first | exact (Kd.R_reads' HO152014.out).2.2 | (with_reducible refine Kd.C_alloc ?_ _) | (with_reducible refine Kd.C_drewN ?_ _) | (with_reducible refine Kd.C_drew ?_)))
          (case side4 => exact (Kd.R_reads' HO152014.out).2.1)
          rintro e w' ⟨rfl, ⟨nd, rfl⟩⟩
          refine ⟨_, rfl, ?_⟩
          have p18 : 0 ≤ ((ji15) : Int) := of_decide_eq_true (by first | (with_reducible assumption) | assumption)
          have q18 : ((ji15) : Int) < ((x5_2.length : Int) : Int) := of_decide_eq_true (by first | (with_reducible assumption) | assumption)
          obtain ⟨go18, co18, eo18, gb18, gl18, cl18, HG18⟩ := Kd.R_form HO_5.out (by omega)
          (first | cases eo18 | (injection eo18 with ea_ en_ ec_; (first | subst ea_ | (injection ea_ with ea_; subst ea_)); subst ec_; clear en_))
          have GB18 := mk gb18
          have GG18 := mk HG18
          clear gb18 gl18 HG18
          obtain ⟨hx18_0, hf18_0⟩ := Kd.R_celln false HO_5.out ((ji15) : Int) p18 q18
          replace p18 := eq_true p18
          replace q18 := eq_true q18
          have HP26 := Kd.R_putn HO_5.out ((ji15) : Int) (!t152015)
          rw [← Ny152016.out] at HP26
          have HQ26 := mk HP26
          clear HP26
          refine hK.out _ _ ⟨(blk_cell BK152001.out 0).trans rfl, (blk_cell BK152001.out 1).trans rfl, (blk_cell BK152001.out 2).trans rfl, (blk_cell BK152001.out 3).trans rfl, (blk_cell BK152002.out 0).trans rfl, (blk_cell BK152002.out 1).trans rfl, (blk_cell BK152002.out 2).trans rfl, (blk_cell BK152002.out 3).trans rfl⟩ (fun hHeld => ?_)
          clear hK K
          refine norm_ (a' := ?_) ?_ ?_
          rotate_left
          ·show Act.put _ (some 34) _ = _
           simp only [Act.put, List.setIfInBounds_toArray, List.set_cons_zero, List.set_cons_succ, i64_w, i32_w]
           rfl
          refine pure_ (i := 14) (N := some 35) (v := ?_) (a' := ?_) #[true, true, true, true, true, true, true, true, true, true, true, true, true, true, true, false, false] rfl rfl (any_of HT_.out (by kernel_rfl)) (fun _ _ _ h => h) (Or.inl ⟨by rfl, ?_⟩) ?_ ?_
          rotate_left
          ·intro w'
           go_simp
           with_reducible rfl
          rotate_left
          ·simp only [Act.put, List.setIfInBounds_toArray, List.set_cons_zero, List.set_cons_succ, i64_w, i32_w]
           rfl
          refine pure_ (i := 15) (N := some 36) (v := ?_) (a' := ?_) #[true, true, true, true, true, true, true, true, true, true, true, true, true, true, true, true, false] rfl rfl (any_of HT_.out (by kernel_rfl)) (fun _ _ _ h => h) (Or.inl ⟨by rfl, ?_⟩) ?_ ?_
          rotate_left
          ·intro w'
           go_simp
           with_reducible rfl
          rotate_left
          ·simp only [Act.put, List.setIfInBounds_toArray, List.set_cons_zero, List.set_cons_succ, i64_w, i32_w]
           rfl
          refine last_ (i := 16) (N := none) #[true, true, true, true, true, true, true, true, true, true, true, true, true, true, true, true, true] rfl rfl (one_of HT_.out (by kernel_rfl)) (by decide) (fun K hK => ?_)
          refine skip_ (w1 := ?_) (by rfl) rfl ?_ ?_
          rotate_left
          ·go_simp
           rfl
          refine hK.out _ _ ?_
          clear hK K
          refine done_ (done_of HT_.out (by kernel_rfl)) ?_
          try go_wp2
          go_roundg k2
          case measure => have := HK1.out; have := HK2.out; omega
          case rel => exact ⟨(y152016), (wrap64 (x7_2 + 1)), (by first | rfl | (simp; done) | (simp [*]; done)), H', ⟨by have := HK1.out; have := HK2.out; omega⟩, ⟨by (with_reducible repeat (first | apply Kd.R_alloc | apply Kd.R_drewN | apply Kd.R_drew)); exact HQ26.out⟩, ⟨by (with_reducible repeat (first | refine blk_drewN ?_ _ | refine blk_drew ?_ | refine blk_alloc ?_ _)); refine blk_far ?_ (by have h_ := Kd.R_ne HO_5.out BK152001.out (by decide); intro e_; exact h_ (by rw [e_]; rfl)) _; (with_reducible repeat (first | refine blk_drewN ?_ _ | refine blk_drew ?_ | refine blk_alloc ?_ _)); exact BK152001.out⟩, ⟨by (with_reducible repeat (first | refine blk_drewN ?_ _ | refine blk_drew ?_ | refine blk_alloc ?_ _)); refine blk_far ?_ (by have h_ := Kd.R_ne HO_5.out BK152002.out (by decide); intro e_; exact h_ (by rw [e_]; rfl)) _; (with_reducible repeat (first | refine blk_drewN ?_ _ | refine blk_drew ?_ | refine blk_alloc ?_ _)); exact BK152002.out⟩, ⟨by repeat (first | (with_reducible first | exact HB.out | apply below_alloc | apply pw_below_drewN | apply below_drew1 | refine below_set ?_ GB18.out | refine below_set ?_ GE152001.out | refine below_set ?_ GE152002.out) | exact HB.out)⟩⟩
         ·rw [if_neg c17] at H
          exact absurd H (by simp)
        ·rw [if_neg c16] at H
         exact absurd H (by simp)
       ·rw [if_neg c11] at H
        have c11b0 : decide (x7_2 < a0_0) = false := decide_eq_false c11
        clear c11
        have H' := mk H
        clear H
        have hnb27 := NB152001_152002.out
        have hnc27 := NB152002_152001.out
        have hcz28_0 : wr.cell? ⟨gb152001, 0, none⟩ = some (.int .i64 a0_0) := (blk_cell BK152001.out 0).trans rfl
        have hcz28_1 : wr.cell? ⟨gb152001, 1, none⟩ = some (.int .i64 a0_1) := (blk_cell BK152001.out 1).trans rfl
        have hcz28_2 : wr.cell? ⟨gb152001, 2, none⟩ = some (.int .i64 a0_2) := (blk_cell BK152001.out 2).trans rfl
        have hcz28_3 : wr.cell? ⟨gb152001, 3, none⟩ = some (.slice A0_3 l0_3.length c0_3) := (blk_cell BK152001.out 3).trans rfl
        have hfz28_0 := blk_frozen BK152001.out 0
        have hfz28_1 := blk_frozen BK152001.out 1
        have hfz28_2 := blk_frozen BK152001.out 2
        have hfz28_3 := blk_frozen BK152001.out 3
        go_wp2
        go_roundg k2
        case measure => have := HK1.out; have := HK2.out; omega
        case rel => exact ⟨(x5_2), (wrap64 (x6_1 + 1)), (by first | rfl | (simp; done) | (simp [*]; done)), H', ⟨by have := HK1.out; have := HK2.out; omega⟩, ⟨by (with_reducible repeat (first | apply Kd.R_alloc | apply Kd.R_drewN | apply Kd.R_drew)); exact HO_5.out⟩, ⟨by (with_reducible repeat (first | refine blk_drewN ?_ _ | refine blk_drew ?_ | refine blk_alloc ?_ _)); exact BK152001.out⟩, ⟨by (with_reducible repeat (first | refine blk_drewN ?_ _ | refine blk_drew ?_ | refine blk_alloc ?_ _)); exact BK152002.out⟩, ⟨by repeat (first | (with_reducible first | exact HB.out | apply below_alloc | apply pw_below_drewN | apply below_drew1 | refine below_set ?_ GE152001.out | refine below_set ?_ GE152002.out) | exact HB.out)⟩⟩
    ·rw [if_neg c8] at H
     have c8b0 : decide (x6_1 < a0_1) = false := decide_eq_false c8
     clear c8
     replace H := Option.bind_eq_some_iff.mp H
     obtain ⟨t152006, A290, H⟩ := H
     replace H : (some t152006) = some r := H
     have A29 := mk A290
     clear A290
     obtain rfl := Option.some.inj H
     have hnb30 := NB152001_152002.out
     have hnc30 := NB152002_152001.out
     have hcz31_0 : wr.cell? ⟨gb152001, 0, none⟩ = some (.int .i64 a0_0) := (blk_cell BK152001.out 0).trans rfl
     have hcz31_1 : wr.cell? ⟨gb152001, 1, none⟩ = some (.int .i64 a0_1) := (blk_cell BK152001.out 1).trans rfl
     have hcz31_2 : wr.cell? ⟨gb152001, 2, none⟩ = some (.int .i64 a0_2) := (blk_cell BK152001.out 2).trans rfl
     have hcz31_3 : wr.cell? ⟨gb152001, 3, none⟩ = some (.slice A0_3 l0_3.length c0_3) := (blk_cell BK152001.out 3).trans rfl
     have hfz31_0 := blk_frozen BK152001.out 0
     have hfz31_1 := blk_frozen BK152001.out 1
     have hfz31_2 := blk_frozen BK152001.out 2
     have hfz31_3 := blk_frozen BK152001.out 3
     obtain ⟨Ao32, co32, eo32⟩ := Kd.R_slice HO_5.out
     subst eo32
     go_wp2_with (first | ((with_reducible refine gate_callee (f := 160) rfl ?_); refine goesL_ (some 38) rfl rfl Try.func160 (by kernel_rfl) rfl #[.slice Ao32 x5_1.length co32] rfl (by (try simp only [List.map_toArray, List.map_cons, List.map_nil]); first | done | rfl | (simp only [List.length_drop, List.length_take]; rfl)) ?_; (with_reducible refine (spec_runsOf.calls k1 _ _ x5_1 t152006 _ ?side1 ?side2 A29.out).mono ?_); (case side1 => repeat (first | exact (Kd.R_reads' HO_5.out).2.2 | (with_reducible refine Kd.C_alloc ?_ _) | (with_reducible refine Kd.C_drewN ?_ _) | (with_reducible refine Kd.C_drew ?_))); (case side2 => exact (Kd.R_reads' HO_5.out).2.1); rintro e w33 ⟨v152007, rfl, ho0, hb⟩; refine ⟨_, rfl, ?_⟩; have n0_ := mk (Kd.R_below (by (with_reducible repeat (first | apply Kd.R_alloc | apply Kd.R_drewN | apply Kd.R_drew)); exact HO_5.out) hb); have n1_ := mk (Kd.R_lower ho0 (below_size (by repeat (first | (with_reducible first | exact HB.out | apply below_alloc | apply pw_below_drewN | apply below_drew1 | refine below_set ?_ GE152001.out | refine below_set ?_ GE152002.out) | exact HB.out)))); have n2_ := mk (blk_below (g := gb152001) (o := .cells #[.int .i64 a0_0, .int .i64 a0_1, .int .i64 a0_2, .slice A0_3 l0_3.length c0_3] 27 (0, 0)) (by (with_reducible repeat (first | refine blk_drewN ?_ _ | refine blk_drew ?_ | refine blk_alloc ?_ _)); exact BK152001.out) hb); have n3_ := mk (blk_below (g := gb152002) (o := .cells #[.int .i64 a1_0, .int .i64 a1_1, .int .i64 a1_2, .slice A1_3 l1_3.length c1_3] 27 (0, 0)) (by (with_reducible repeat (first | refine blk_drewN ?_ _ | refine blk_drew ?_ | refine blk_alloc ?_ _)); exact BK152002.out) hb); have n4_ := mk (below_step (by repeat (first | (with_reducible first | exact HB.out | apply below_alloc | apply pw_below_drewN | apply below_drew1 | refine below_set ?_ GE152001.out | refine below_set ?_ GE152002.out) | exact HB.out)) hb); clear HO_5; clear BK152001; clear BK152002; clear HB; have HO_5 := n0_; have HO152008 := n1_; have BK152001 := n2_; have BK152002 := n3_; have HB := n4_; clear n0_ n1_ n2_ n3_ n4_; (try clear hb); (try clear hb2); (try clear hk); (try clear hi); (try clear ho0)))
     go_ret
     exact ⟨_, by first | rfl | (simp [errW_none, errW_some] <;> rfl) | (simp [*, errW_none, errW_some] <;> rfl), by (with_reducible repeat (first | apply Kd.R_alloc | apply Kd.R_drewN | apply Kd.R_drew)); exact HO152008.out, by repeat (first | (with_reducible first | exact HB.out | apply below_alloc | apply pw_below_drewN | apply below_drew1 | refine below_set ?_ GE152001.out | refine below_set ?_ GE152002.out) | exact HB.out)⟩
 ·rw [if_neg c3] at H
  exact absurd H (by simp)


def spec_boundsOf.l0 : Nat → List (S118) → Int → Int → Int → Option (Int × Int × Int × Int)
 | 0, _, _, _, _ => none
 | k + 1, x0, x3, x4, x5 => if x5 < (x0.length : Int) then (if 0 ≤ x5 then (spec_boundsOf.l0 k x0 (mn x3 ((rd_T118 x0 x5).f1)) (mx x4 ((rd_T118 x0 x5).f2)) (wrap64 (x5 + 1))) else (none)) else (if 0 < (x0.length : Int) then (if 0 ≤ (wrap64 ((x0.length : Int) - 1)) then (if (wrap64 ((x0.length : Int) - 1)) < (x0.length : Int) then (some (x3, (rd_T118 x0 0).f0, wrap64 (x4 - x3), wrap64 ((wrap64 (((rd_T118 x0 (wrap64 ((x0.length : Int) - 1))).f0) - ((rd_T118 x0 0).f0))) + 1))) else (none)) else (none)) else (none))
def spec_boundsOf.f (k : Nat) (l0 : List (S118)) : Option (Int × Int × Int × Int) := if 0 < (l0.length : Int) then (spec_boundsOf.l0 k l0 ((rd_T118 l0 0).f1) ((rd_T118 l0 0).f2) 0) else (none)
def spec_boundsOf.T8 : Bool × List (List Nat × List Nat) := (true, [([], []), ([], []), ([1], [1]), ([2], [2]), ([3], [3]), ([], []), ([], []), ([5, 6], [5, 6]), ([], []), ([], []), ([9], [9]), ([10], [10]), ([8, 11], [8, 11]), ([12], [12]), ([13], [13]), ([], []), ([15], [15]), ([16], [16]), ([17], [17]), ([14, 18], [14, 18]), ([19], [19]), ([0, 4, 7, 20], [0, 4, 7, 20]), ([21, 0, 1, 2, 3, 4, 5, 6, 7, 8, 9, 10, 11, 12, 13, 14, 15, 16, 17, 18, 19, 20, 21], [21])])
def spec_boundsOf.B8 : List Nat := [0, 0, 2, 6, 14, 0, 0, 96, 0, 0, 512, 1536, 3840, 7936, 16128, 0, 32768, 98304, 229376, 524032, 1048320, 2097151, 4194303]
theorem spec_boundsOf.tab8 : rtab .any (opsOf Try.f152 8) = spec_boundsOf.T8 := by kernel_rfl
theorem spec_boundsOf.bits8 : waitsOk spec_boundsOf.T8.2 spec_boundsOf.B8 = true := by kernel_rfl
theorem spec_boundsOf.calls (k : Nat) (A0 : Option Addr) (c0 : Nat) (l0 : List (S118)) (r1 : Int) (r2 : Int) (r3 : Int) (r4 : Int) (w : World) (hr0 : Kd.C k118 w A0 l0.length l0) (hc0 : l0.length ≤ c0) (h : spec_boundsOf.f k l0 = some (r1, r2, r3, r4)) :
  Calls Try.prog 152 #[.slice A0 l0.length c0] w fun e w' => e = .returned (.agg #[.int .i64 r1, .int .i64 r2, .int .i64 r3, .int .i64 r4]) ∧ Below w.heap.size w w' := by
 have hu47 := Try.underlying47
 have HR0 := Aside0.mk hr0
 have HC0 := Aside0.mk hc0
 clear hr0 hc0
 have HB := Aside0.mk (Below.refl w.heap.size w)
 have H : (if 0 < (l0.length : Int) then (spec_boundsOf.l0 k l0 ((rd_T118 l0 0).f1) ((rd_T118 l0 0).f2) 0) else (none)) = some (r1, r2, r3, r4) := h
 clear h
 by_cases c2 : 0 < (l0.length : Int)
 ·rw [if_pos c2] at H
  have c2b0 : decide (0 < (l0.length : Int)) = true := decide_eq_true c2
  have c2b1 : decide (0 < l0.length) = true := decide_eq_true (by omega)
  clear c2
  have H' := Aside0.mk H
  clear H
  go_enter Try.func152, Try.ntmps152
  go_wp2_with (first | ((with_reducible refine gate_dst (N := 2) rfl ?_); refine box_event ?hg (N := 2) ?hd (cs := #[.int .i64 0, .int .i64 0, .int .i64 0, .int .i64 0]) (t := 47) ?hr ?_; (case hd => rfl); (case hg => rfl); (case hr => first | (go_simp; done) | (go_simp; rfl)); intro gb153001 hg w3 hbox hb; have n0_ := Aside0.mk (below_step (by repeat (first | (with_reducible first | exact HB.out | apply below_alloc | apply pw_below_drewN | apply below_drew1) | exact HB.out)) hb); have n1_ := Aside0.mk (hbox); have n2_ := Aside0.mk ((by rw [hg]; exact (below_size (by repeat (first | (with_reducible first | exact HB.out | apply below_alloc | apply pw_below_drewN | apply below_drew1) | exact HB.out))) : w.heap.size ≤ gb153001)); have n3_ := Aside0.mk ((by rw [hg]; exact (below_size (by repeat (first | (with_reducible first | exact HB.out | apply below_alloc | apply pw_below_drewN | apply below_drew1) | exact HB.out))) : w.heap.size ≤ gb153001)); clear HB; have HB := n0_; have BK153001 := n1_; have GW153001 := n2_; have GE153001 := n3_; clear n0_ n1_ n2_ n3_; clear hb hbox hg; have p153002 : 0 ≤ (0 : Int) := (by omega); have q153002 : 0 < (l0.length : Int) := of_decide_eq_true (by first | (with_reducible assumption) | assumption); obtain ⟨ad153002, e153002, hx153002_0, hx153002_1, hx153002_2⟩ := at_T118 HR0.out 0 p153002 q153002; cases e153002; have qi153002 : (0 < l0.length) = True := eq_true (by omega); (try rw [show ((0 : Int)).toNat = 0 from rfl] at hx153002_0); (try rw [show 0 * 3 = 0 from rfl] at hx153002_0); (try rw [Addr.add_zero'] at hx153002_0); (try rw [show ((0 : Int)).toNat = 0 from rfl] at hx153002_1); (try rw [show 0 * 3 = 0 from rfl] at hx153002_1); (try rw [Addr.add_zero'] at hx153002_1); (try rw [show ((0 : Int)).toNat = 0 from rfl] at hx153002_2); (try rw [show 0 * 3 = 0 from rfl] at hx153002_2); (try rw [Addr.add_zero'] at hx153002_2); replace hx153002_0 := (HB.out.cell (World.block_lt_of_cell? w _ hx153002_0)).trans hx153002_0; replace hx153002_1 := (HB.out.cell (World.block_lt_of_cell? w _ hx153002_1)).trans hx153002_1; replace hx153002_2 := (HB.out.cell (World.block_lt_of_cell? w _ hx153002_2)).trans hx153002_2; replace p153002 := eq_true p153002; replace q153002 := eq_true q153002; have p153003 : 0 ≤ (0 : Int) := (by omega); have q153003 : 0 < (l0.length : Int) := of_decide_eq_true (by first | (with_reducible assumption) | assumption); obtain ⟨ad153003, e153003, hx153003_0, hx153003_1, hx153003_2⟩ := at_T118 HR0.out 0 p153003 q153003; obtain rfl : ad153002 = ad153003 := (by injection e153003); have qi153003 : (0 < l0.length) = True := eq_true (by omega); (try rw [show ((0 : Int)).toNat = 0 from rfl] at hx153003_0); (try rw [show 0 * 3 = 0 from rfl] at hx153003_0); (try rw [Addr.add_zero'] at hx153003_0); (try rw [show ((0 : Int)).toNat = 0 from rfl] at hx153003_1); (try rw [show 0 * 3 = 0 from rfl] at hx153003_1); (try rw [Addr.add_zero'] at hx153003_1); (try rw [show ((0 : Int)).toNat = 0 from rfl] at hx153003_2); (try rw [show 0 * 3 = 0 from rfl] at hx153003_2); (try rw [Addr.add_zero'] at hx153003_2); replace hx153003_0 := (HB.out.cell (World.block_lt_of_cell? w _ hx153003_0)).trans hx153003_0; replace hx153003_1 := (HB.out.cell (World.block_lt_of_cell? w _ hx153003_1)).trans hx153003_1; replace hx153003_2 := (HB.out.cell (World.block_lt_of_cell? w _ hx153003_2)).trans hx153003_2; replace p153003 := eq_true p153003; replace q153003 := eq_true q153003))
  go_loopg [3, 4, 5] k (fun kq v3 v4 v5 w' => ∃ (x3_1 : Int) (x4_1 : Int) (x5_1 : Int), v3 = .int .i64 x3_1 ∧ v4 = .int .i64 x4_1 ∧ v5 = .int .i64 x5_1 ∧ Aside0 (spec_boundsOf.l0 kq l0 x3_1 x4_1 x5_1 = some (r1, r2, r3, r4)) ∧ Aside0 (kq ≤ k) ∧ Aside0 (w'.heap[gb153001]? = some (.cells #[.int .i64 0, .int .i64 0, .int .i64 0, .int .i64 0] 47 (0, 0))) ∧ Aside0 (Below w.heap.size w w'))
  case atStart => exact ⟨((rd_T118 l0 0).f1), ((rd_T118 l0 0).f2), (0), (by first | rfl | (simp; done) | (simp [*]; done)), (by first | rfl | (simp; done) | (simp [*]; done)), (by first | rfl | (simp; done) | (simp [*]; done)), H', ⟨Nat.le_refl _⟩, ⟨by (with_reducible repeat (first | refine blk_drewN ?_ _ | refine blk_drew ?_ | refine blk_alloc ?_ _)); exact BK153001.out⟩, ⟨by repeat (first | (with_reducible first | exact HB.out | apply below_alloc | apply pw_below_drewN | apply below_drew1 | refine below_set ?_ GE153001.out) | exact HB.out)⟩⟩
  case round =>
   clear H'
   try clear c1
   try clear p1
   try clear q1
   try clear hx1
   try clear qi1
   try clear c2
   try clear c2b0
   try clear c2b1
   try clear p2
   try clear hx153002_0
   try clear hx153002_1
   try clear hx153002_2
   try clear hx153003_0
   try clear hx153003_1
   try clear hx153003_2
   try clear p153002
   try clear p153003
   try clear q153002
   try clear q153003
   obtain ⟨x3_1, x4_1, x5_1, rfl, rfl, rfl, HA, HK1, BK153001, HB⟩ := hrel
   cases gk with
   | zero => exact absurd HA.out (by simp [spec_boundsOf.l0])
   | succ k1 =>
    have H := HA.out
    clear HA
    simp only [spec_boundsOf.l0] at H
    by_cases c4 : x5_1 < (l0.length : Int)
    ·rw [if_pos c4] at H
     have c4b0 : decide (x5_1 < (l0.length : Int)) = true := decide_eq_true c4
     clear c4
     by_cases c5 : 0 ≤ x5_1
     ·rw [if_pos c5] at H
      have c5b0 : decide (0 ≤ x5_1) = true := decide_eq_true c5
      clear c5
      obtain ⟨ji6, hji6⟩ : ∃ j_ : Int, (mn x3_1 ((rd_T118 l0 x5_1).f1)) = j_ := ⟨_, rfl⟩
      replace H : (spec_boundsOf.l0 k1 l0 ji6 (mx x4_1 ((rd_T118 l0 x5_1).f2)) (wrap64 (x5_1 + 1))) = some (r1, r2, r3, r4) := by first | (rw [hji6] at H; exact H) | (simp only [hji6] at H ⊢; exact H)
      have hji6_ : (if ((rd_T118 l0 x5_1).f1) < x3_1 then ((rd_T118 l0 x5_1).f1) else x3_1) = ji6 := hji6
      obtain ⟨ji7, hji7⟩ : ∃ j_ : Int, (mx x4_1 ((rd_T118 l0 x5_1).f2)) = j_ := ⟨_, rfl⟩
      replace H : (spec_boundsOf.l0 k1 l0 ji6 ji7 (wrap64 (x5_1 + 1))) = some (r1, r2, r3, r4) := by first | (rw [hji7] at H; exact H) | (simp only [hji7] at H ⊢; exact H)
      have hji7_ : (if x4_1 < ((rd_T118 l0 x5_1).f2) then ((rd_T118 l0 x5_1).f2) else x4_1) = ji7 := hji7
      have H' := Aside0.mk H
      clear H
      have p153004 : 0 ≤ (x5_1 : Int) := of_decide_eq_true (by first | (with_reducible assumption) | assumption)
      have q153004 : x5_1 < (l0.length : Int) := of_decide_eq_true (by first | (with_reducible assumption) | assumption)
      obtain ⟨ad153004, e153004, hx153004_0, hx153004_1, hx153004_2⟩ := at_T118 HR0.out x5_1 p153004 q153004
      obtain rfl : ad153002 = ad153004 := (by injection e153004)
      replace hx153004_0 := (HB.out.cell (World.block_lt_of_cell? w _ hx153004_0)).trans hx153004_0
      replace hx153004_1 := (HB.out.cell (World.block_lt_of_cell? w _ hx153004_1)).trans hx153004_1
      replace hx153004_2 := (HB.out.cell (World.block_lt_of_cell? w _ hx153004_2)).trans hx153004_2
      replace p153004 := eq_true p153004
      replace q153004 := eq_true q153004
      have p153005 : 0 ≤ (x5_1 : Int) := of_decide_eq_true (by first | (with_reducible assumption) | assumption)
      have q153005 : x5_1 < (l0.length : Int) := of_decide_eq_true (by first | (with_reducible assumption) | assumption)
      obtain ⟨ad153005, e153005, hx153005_0, hx153005_1, hx153005_2⟩ := at_T118 HR0.out x5_1 p153005 q153005
      obtain rfl : ad153002 = ad153005 := (by injection e153005)
      replace hx153005_0 := (HB.out.cell (World.block_lt_of_cell? w _ hx153005_0)).trans hx153005_0
      replace hx153005_1 := (HB.out.cell (World.block_lt_of_cell? w _ hx153005_1)).trans hx153005_1
      replace hx153005_2 := (HB.out.cell (World.block_lt_of_cell? w _ hx153005_2)).trans hx153005_2
      replace p153005 := eq_true p153005
      replace q153005 := eq_true q153005
      go_wp2
      go_roundg k1
      case measure => have := HK1.out; omega
      case rel => exact ⟨(ji6), (ji7), (wrap64 (x5_1 + 1)), (by first | rfl | (simp; done) | (simp only [← hji6] <;> (first | rfl | simp)) | (simp [*]; done)), (by first | rfl | (simp; done) | (simp only [← hji7] <;> (first | rfl | simp)) | (simp [*]; done)), (by first | rfl | (simp; done) | (simp [*]; done)), H', ⟨by have := HK1.out; omega⟩, ⟨by (with_reducible repeat (first | refine blk_drewN ?_ _ | refine blk_drew ?_ | refine blk_alloc ?_ _)); exact BK153001.out⟩, ⟨by repeat (first | (with_reducible first | exact HB.out | apply below_alloc | apply pw_below_drewN | apply below_drew1 | refine below_set ?_ GE153001.out) | exact HB.out)⟩⟩
     ·rw [if_neg c5] at H
      exact absurd H (by simp)
    ·rw [if_neg c4] at H
     have c4b0 : decide (x5_1 < (l0.length : Int)) = false := decide_eq_false c4
     clear c4
     by_cases c8 : 0 < (l0.length : Int)
     ·rw [if_pos c8] at H
      have c8b0 : decide (0 < (l0.length : Int)) = true := decide_eq_true c8
      have c8b1 : decide (0 < l0.length) = true := decide_eq_true (by omega)
      clear c8
      obtain ⟨ji9, hji9⟩ : ∃ j_ : Int, (wrap64 ((l0.length : Int) - 1)) = j_ := ⟨_, rfl⟩
      replace H : (if 0 ≤ (ji9) then (if (ji9) < (l0.length : Int) then (some (x3_1, (rd_T118 l0 0).f0, wrap64 (x4_1 - x3_1), wrap64 ((wrap64 (((rd_T118 l0 (ji9)).f0) - ((rd_T118 l0 0).f0))) + 1))) else (none)) else (none)) = some (r1, r2, r3, r4) := by first | (rw [hji9] at H; exact H) | (simp only [hji9] at H ⊢; exact H)
      have hji9w : (IntKind.i64.wrap ((l0.length : Int) - 1)) = ji9 := (i64_w _).trans hji9
      by_cases c10 : 0 ≤ (ji9)
      ·rw [if_pos c10] at H
       have c10b0 : decide (0 ≤ (ji9)) = true := decide_eq_true c10
       clear c10
       by_cases c11 : (ji9) < (l0.length : Int)
       ·rw [if_pos c11] at H
        have c11b0 : decide ((ji9) < (l0.length : Int)) = true := decide_eq_true c11
        clear c11
        simp only [Option.some.injEq, Prod.mk.injEq] at H
        obtain ⟨rfl, rfl, rfl, rfl⟩ := H
        try go_wp2
        have n0_ := Aside0.mk (blk_drew BK153001.out)
        have n1_ := Aside0.mk (below_drew1 HB.out)
        clear BK153001
        clear HB
        have BK153001 := n0_
        have HB := n1_
        clear n0_ n1_
        have p153006 : 0 ≤ (0 : Int) := (by omega)
        have q153006 : 0 < (l0.length : Int) := of_decide_eq_true (by first | (with_reducible assumption) | assumption)
        obtain ⟨ad153006, e153006, hx153006_0, hx153006_1, hx153006_2⟩ := at_T118 HR0.out 0 p153006 q153006
        have hw153006_2 := hx153006_2
        (try rw [show ((0 : Int)).toNat = 0 from rfl] at hw153006_2)
        (try rw [show 0 * 3 = 0 from rfl] at hw153006_2)
        (try rw [Addr.add_zero'] at hw153006_2)
        have hw153006_1 := hx153006_1
        (try rw [show ((0 : Int)).toNat = 0 from rfl] at hw153006_1)
        (try rw [show 0 * 3 = 0 from rfl] at hw153006_1)
        (try rw [Addr.add_zero'] at hw153006_1)
        have hw153006_0 := hx153006_0
        (try rw [show ((0 : Int)).toNat = 0 from rfl] at hw153006_0)
        (try rw [show 0 * 3 = 0 from rfl] at hw153006_0)
        (try rw [Addr.add_zero'] at hw153006_0)
        obtain rfl : ad153002 = ad153006 := (by injection e153006)
        have qi153006 : (0 < l0.length) = True := eq_true (by omega)
        (try rw [show ((0 : Int)).toNat = 0 from rfl] at hx153006_0)
        (try rw [show 0 * 3 = 0 from rfl] at hx153006_0)
        (try rw [Addr.add_zero'] at hx153006_0)
        (try rw [show ((0 : Int)).toNat = 0 from rfl] at hx153006_1)
        (try rw [show 0 * 3 = 0 from rfl] at hx153006_1)
        (try rw [Addr.add_zero'] at hx153006_1)
        (try rw [show ((0 : Int)).toNat = 0 from rfl] at hx153006_2)
        (try rw [show 0 * 3 = 0 from rfl] at hx153006_2)
        (try rw [Addr.add_zero'] at hx153006_2)
        replace hx153006_0 := (HB.out.cell (World.block_lt_of_cell? w _ hx153006_0)).trans hx153006_0
        replace hx153006_1 := (HB.out.cell (World.block_lt_of_cell? w _ hx153006_1)).trans hx153006_1
        replace hx153006_2 := (HB.out.cell (World.block_lt_of_cell? w _ hx153006_2)).trans hx153006_2
        replace p153006 := eq_true p153006
        replace q153006 := eq_true q153006
        have p153007 : 0 ≤ ((ji9) : Int) := of_decide_eq_true (by first | (with_reducible assumption) | assumption)
        have q153007 : (ji9) < (l0.length : Int) := of_decide_eq_true (by first | (with_reducible assumption) | assumption)
        obtain ⟨ad153007, e153007, hx153007_0, hx153007_1, hx153007_2⟩ := at_T118 HR0.out (ji9) p153007 q153007
        have hw153007_2 := hx153007_2
        have hw153007_1 := hx153007_1
        have hw153007_0 := hx153007_0
        obtain rfl : ad153002 = ad153007 := (by injection e153007)
        replace hx153007_0 := (HB.out.cell (World.block_lt_of_cell? w _ hx153007_0)).trans hx153007_0
        replace hx153007_1 := (HB.out.cell (World.block_lt_of_cell? w _ hx153007_1)).trans hx153007_1
        replace hx153007_2 := (HB.out.cell (World.block_lt_of_cell? w _ hx153007_2)).trans hx153007_2
        replace p153007 := eq_true p153007
        replace q153007 := eq_true q153007
        have p153008 : 0 ≤ (0 : Int) := (by omega)
        have q153008 : 0 < (l0.length : Int) := of_decide_eq_true (by first | (with_reducible assumption) | assumption)
        obtain ⟨ad153008, e153008, hx153008_0, hx153008_1, hx153008_2⟩ := at_T118 HR0.out 0 p153008 q153008
        have hw153008_2 := hx153008_2
        (try rw [show ((0 : Int)).toNat = 0 from rfl] at hw153008_2)
        (try rw [show 0 * 3 = 0 from rfl] at hw153008_2)
        (try rw [Addr.add_zero'] at hw153008_2)
        have hw153008_1 := hx153008_1
        (try rw [show ((0 : Int)).toNat = 0 from rfl] at hw153008_1)
        (try rw [show 0 * 3 = 0 from rfl] at hw153008_1)
        (try rw [Addr.add_zero'] at hw153008_1)
        have hw153008_0 := hx153008_0
        (try rw [show ((0 : Int)).toNat = 0 from rfl] at hw153008_0)
        (try rw [show 0 * 3 = 0 from rfl] at hw153008_0)
        (try rw [Addr.add_zero'] at hw153008_0)
        obtain rfl : ad153002 = ad153008 := (by injection e153008)
        have qi153008 : (0 < l0.length) = True := eq_true (by omega)
        (try rw [show ((0 : Int)).toNat = 0 from rfl] at hx153008_0)
        (try rw [show 0 * 3 = 0 from rfl] at hx153008_0)
        (try rw [Addr.add_zero'] at hx153008_0)
        (try rw [show ((0 : Int)).toNat = 0 from rfl] at hx153008_1)
        (try rw [show 0 * 3 = 0 from rfl] at hx153008_1)
        (try rw [Addr.add_zero'] at hx153008_1)
        (try rw [show ((0 : Int)).toNat = 0 from rfl] at hx153008_2)
        (try rw [show 0 * 3 = 0 from rfl] at hx153008_2)
        (try rw [Addr.add_zero'] at hx153008_2)
        replace hx153008_0 := (HB.out.cell (World.block_lt_of_cell? w _ hx153008_0)).trans hx153008_0
        replace hx153008_1 := (HB.out.cell (World.block_lt_of_cell? w _ hx153008_1)).trans hx153008_1
        replace hx153008_2 := (HB.out.cell (World.block_lt_of_cell? w _ hx153008_2)).trans hx153008_2
        replace p153008 := eq_true p153008
        replace q153008 := eq_true q153008
        refine start_ (n := 23) (S := fun w' => w'.cell? ad153002 = some (.int .i64 ((rd_T118 l0 0).f0)) ∧ w'.cell? ⟨ad153002.block, ad153002.off + 1, none⟩ = some (.int .i64 ((rd_T118 l0 0).f1)) ∧ w'.cell? ⟨ad153002.block, ad153002.off + 2, none⟩ = some (.int .i64 ((rd_T118 l0 0).f2)) ∧ w'.cell? (ad153002.add (((ji9)).toNat * 3)) = some (.int .i64 ((rd_T118 l0 (ji9)).f0)) ∧ w'.cell? ⟨(ad153002.add (((ji9)).toNat * 3)).block, (ad153002.add (((ji9)).toNat * 3)).off + 1, none⟩ = some (.int .i64 ((rd_T118 l0 (ji9)).f1)) ∧ w'.cell? ⟨(ad153002.add (((ji9)).toNat * 3)).block, (ad153002.add (((ji9)).toNat * 3)).off + 2, none⟩ = some (.int .i64 ((rd_T118 l0 (ji9)).f2)) ∧ w'.cell? ad153002 = some (.int .i64 ((rd_T118 l0 0).f0)) ∧ w'.cell? ⟨ad153002.block, ad153002.off + 1, none⟩ = some (.int .i64 ((rd_T118 l0 0).f1)) ∧ w'.cell? ⟨ad153002.block, ad153002.off + 2, none⟩ = some (.int .i64 ((rd_T118 l0 0).f2))) (ds := []) #[false, false, false, false, false, false, false, false, false, false, false, false, false, false, false, false, false, false, false, false, false, false, false] (by kernel_rfl) rfl rfl ⟨((HB.out.cell (World.block_lt_of_cell? w _ hw153006_0)).trans hw153006_0), ((HB.out.cell (World.block_lt_of_cell? w _ hw153006_1)).trans hw153006_1), ((HB.out.cell (World.block_lt_of_cell? w _ hw153006_2)).trans hw153006_2), ((HB.out.cell (World.block_lt_of_cell? w _ hw153007_0)).trans hw153007_0), ((HB.out.cell (World.block_lt_of_cell? w _ hw153007_1)).trans hw153007_1), ((HB.out.cell (World.block_lt_of_cell? w _ hw153007_2)).trans hw153007_2), ((HB.out.cell (World.block_lt_of_cell? w _ hw153008_0)).trans hw153008_0), ((HB.out.cell (World.block_lt_of_cell? w _ hw153008_1)).trans hw153008_1), ((HB.out.cell (World.block_lt_of_cell? w _ hw153008_2)).trans hw153008_2)⟩ (fun hHeld => ?_); refine with_tabW spec_boundsOf.tab8 spec_boundsOf.bits8 (fun HT_ HW_ => ?_)
        generalize wr.drew = w12 at BK153001 HB hx153006_0 hx153006_1 hx153006_2 hx153007_0 hx153007_1 hx153007_2 hx153008_0 hx153008_1 hx153008_2 hHeld ⊢
        refine pure_ (i := 0) (N := some 34) (v := ?_) (a' := ?_) #[true, false, false, false, false, false, false, false, false, false, false, false, false, false, false, false, false, false, false, false, false, false, false] rfl rfl (any_of HT_.out (by kernel_rfl)) (fun _ _ _ h => h) (Or.inl ⟨by rfl, ?_⟩) ?_ ?_
        rotate_left
        ·intro w'
         go_simp
         with_reducible rfl
        rotate_left
        ·simp only [Act.put, List.setIfInBounds_toArray, List.set_cons_zero, List.set_cons_succ, i64_w, i32_w]
         rfl
        refine pure_ (i := 1) (N := some 35) (v := ?_) (a' := ?_) #[true, true, false, false, false, false, false, false, false, false, false, false, false, false, false, false, false, false, false, false, false, false, false] rfl rfl (any_of HT_.out (by kernel_rfl)) (fun _ _ _ h => h) (Or.inl ⟨by rfl, ?_⟩) ?_ ?_
        rotate_left
        ·intro w'
         go_simp
         with_reducible rfl
        rotate_left
        ·simp only [Act.put, List.setIfInBounds_toArray, List.set_cons_zero, List.set_cons_succ, i64_w, i32_w]
         rfl
        refine pure_ (i := 2) (N := some 36) (v := ?_) (a' := ?_) #[true, true, true, false, false, false, false, false, false, false, false, false, false, false, false, false, false, false, false, false, false, false, false] rfl rfl (any_of HT_.out (by kernel_rfl)) (fun _ _ _ h => h) (Or.inl ⟨by rfl, ?_⟩) ?_ ?_
        rotate_left
        ·intro w'
         go_simp
         with_reducible rfl
        rotate_left
        ·simp only [Act.put, List.setIfInBounds_toArray, List.set_cons_zero, List.set_cons_succ, i64_w, i32_w]
         rfl
        refine pure_ (i := 3) (N := some 37) (v := ?_) (a' := ?_) #[true, true, true, true, false, false, false, false, false, false, false, false, false, false, false, false, false, false, false, false, false, false, false] rfl rfl (any_of HT_.out (by kernel_rfl)) (fun _ _ _ h => h) (Or.inl ⟨by rfl, ?_⟩) ?_ ?_
        rotate_left
        ·intro w'
         go_simp
         with_reducible rfl
        rotate_left
        ·simp only [Act.put, List.setIfInBounds_toArray, List.set_cons_zero, List.set_cons_succ, i64_w, i32_w]
         rfl
        refine pure_ (i := 5) (N := some 39) (v := ?_) (a' := ?_) #[true, true, true, true, false, true, false, false, false, false, false, false, false, false, false, false, false, false, false, false, false, false, false] rfl rfl (any_of HT_.out (by kernel_rfl)) (fun _ _ _ h => h) (Or.inl ⟨by rfl, ?_⟩) ?_ ?_
        rotate_left
        ·intro w'
         go_simp
         with_reducible rfl
        rotate_left
        ·simp only [Act.put, List.setIfInBounds_toArray, List.set_cons_zero, List.set_cons_succ, i64_w, i32_w]
         rfl
        refine pure_ (i := 6) (N := some 40) (v := ?_) (a' := ?_) #[true, true, true, true, false, true, true, false, false, false, false, false, false, false, false, false, false, false, false, false, false, false, false] rfl rfl (any_of HT_.out (by kernel_rfl)) (fun _ _ _ h => h) (Or.inl ⟨by rfl, ?_⟩) ?_ ?_
        rotate_left
        ·intro w'
         go_simp
         with_reducible rfl
        rotate_left
        ·simp only [Act.put, List.setIfInBounds_toArray, List.set_cons_zero, List.set_cons_succ, i64_w, i32_w]
         rfl
        refine pure_ (i := 7) (N := some 41) (v := ?_) (a' := ?_) #[true, true, true, true, false, true, true, true, false, false, false, false, false, false, false, false, false, false, false, false, false, false, false] rfl rfl (any_of HT_.out (by kernel_rfl)) (fun _ _ _ h => h) (Or.inl ⟨by rfl, ?_⟩) ?_ ?_
        rotate_left
        ·intro w'
         go_simp
         with_reducible rfl
        rotate_left
        ·simp only [Act.put, List.setIfInBounds_toArray, List.set_cons_zero, List.set_cons_succ, i64_w, i32_w]
         rfl
        refine pure_ (i := 8) (N := some 42) (v := ?_) (a' := ?_) #[true, true, true, true, false, true, true, true, true, false, false, false, false, false, false, false, false, false, false, false, false, false, false] rfl rfl (any_of HT_.out (by kernel_rfl)) (fun _ _ _ h => h) (Or.inl ⟨by rfl, ?_⟩) ?_ ?_
        rotate_left
        ·intro w'
         go_simp
         with_reducible rfl
        rotate_left
        ·simp only [Act.put, List.setIfInBounds_toArray, List.set_cons_zero, List.set_cons_succ, i64_w, i32_w]
         rfl
        refine pure_ (i := 9) (N := some 43) (v := ?_) (a' := ?_) #[true, true, true, true, false, true, true, true, true, true, false, false, false, false, false, false, false, false, false, false, false, false, false] rfl rfl (any_of HT_.out (by kernel_rfl)) (fun _ _ _ h => h) (Or.inl ⟨by rfl, ?_⟩) ?_ ?_
        rotate_left
        ·intro w'
         go_simp
         with_reducible rfl
        rotate_left
        ·simp only [Act.put, List.setIfInBounds_toArray, List.set_cons_zero, List.set_cons_succ, i64_w, i32_w]
         rfl
        refine pure_ (i := 10) (N := some 44) (v := ?_) (a' := ?_) #[true, true, true, true, false, true, true, true, true, true, true, false, false, false, false, false, false, false, false, false, false, false, false] rfl rfl (any_of HT_.out (by kernel_rfl)) (fun _ _ _ h => h) (Or.inl ⟨by rfl, ?_⟩) ?_ ?_
        rotate_left
        ·intro w'
         go_simp
         with_reducible rfl
        rotate_left
        ·simp only [Act.put, List.setIfInBounds_toArray, List.set_cons_zero, List.set_cons_succ, i64_w, i32_w]
         rfl
        refine pure_ (i := 11) (N := some 45) (v := ?_) (a' := ?_) #[true, true, true, true, false, true, true, true, true, true, true, true, false, false, false, false, false, false, false, false, false, false, false] rfl rfl (any_of HT_.out (by kernel_rfl)) (fun _ _ _ h => h) (Or.inl ⟨by rfl, ?_⟩) ?_ ?_
        rotate_left
        ·intro w'
         go_simp
         with_reducible rfl
        rotate_left
        ·simp only [Act.put, List.setIfInBounds_toArray, List.set_cons_zero, List.set_cons_succ, i64_w, i32_w]
         rfl
        refine pure_ (i := 12) (N := some 46) (v := ?_) (a' := ?_) #[true, true, true, true, false, true, true, true, true, true, true, true, true, false, false, false, false, false, false, false, false, false, false] rfl rfl (any_of HT_.out (by kernel_rfl)) (fun _ _ _ h => h) (Or.inl ⟨by rfl, ?_⟩) ?_ ?_
        rotate_left
        ·intro w'
         go_simp
         with_reducible rfl
        rotate_left
        ·simp only [Act.put, List.setIfInBounds_toArray, List.set_cons_zero, List.set_cons_succ, i64_w, i32_w]
         rfl
        refine pure_ (i := 13) (N := some 47) (v := ?_) (a' := ?_) #[true, true, true, true, false, true, true, true, true, true, true, true, true, true, false, false, false, false, false, false, false, false, false] rfl rfl (any_of HT_.out (by kernel_rfl)) (fun _ _ _ h => h) (Or.inl ⟨by rfl, ?_⟩) ?_ ?_
        rotate_left
        ·intro w'
         go_simp
         with_reducible rfl
        rotate_left
        ·simp only [Act.put, List.setIfInBounds_toArray, List.set_cons_zero, List.set_cons_succ, i64_w, i32_w]
         rfl
        refine pure_ (i := 15) (N := some 49) (v := ?_) (a' := ?_) #[true, true, true, true, false, true, true, true, true, true, true, true, true, true, false, true, false, false, false, false, false, false, false] rfl rfl (any_of HT_.out (by kernel_rfl)) (fun _ _ _ h => h) (Or.inl ⟨by rfl, ?_⟩) ?_ ?_
        rotate_left
        ·intro w'
         go_simp
         with_reducible rfl
        rotate_left
        ·simp only [Act.put, List.setIfInBounds_toArray, List.set_cons_zero, List.set_cons_succ, i64_w, i32_w]
         rfl
        refine pure_ (i := 16) (N := some 50) (v := ?_) (a' := ?_) #[true, true, true, true, false, true, true, true, true, true, true, true, true, true, false, true, true, false, false, false, false, false, false] rfl rfl (any_of HT_.out (by kernel_rfl)) (fun _ _ _ h => h) (Or.inl ⟨by rfl, ?_⟩) ?_ ?_
        rotate_left
        ·intro w'
         go_simp
         with_reducible rfl
        rotate_left
        ·simp only [Act.put, List.setIfInBounds_toArray, List.set_cons_zero, List.set_cons_succ, i64_w, i32_w]
         rfl
        refine pure_ (i := 17) (N := some 51) (v := ?_) (a' := ?_) #[true, true, true, true, false, true, true, true, true, true, true, true, true, true, false, true, true, true, false, false, false, false, false] rfl rfl (any_of HT_.out (by kernel_rfl)) (fun _ _ _ h => h) (Or.inl ⟨by rfl, ?_⟩) ?_ ?_
        rotate_left
        ·intro w'
         go_simp
         with_reducible rfl
        rotate_left
        ·simp only [Act.put, List.setIfInBounds_toArray, List.set_cons_zero, List.set_cons_succ, i64_w, i32_w]
         rfl
        refine take_ (i := 4) (N := some 38) (v := ?_) (a' := ?_) #[true, true, true, true, true, true, true, true, true, true, true, true, true, true, false, true, true, true, false, false, false, false, false] rfl rfl (take_ofW HT_.out HW_.out (by kernel_rfl)) (fun _ _ _ h => h) (Or.inl ⟨by rfl, ?_⟩) hHeld ?_ ?_
        rotate_left
        ·rintro w' ⟨s0, s1, s2, s3, s4, s5, s6, s7, s8⟩
         go_simp
         with_reducible rfl
        rotate_left
        ·simp only [Act.put, List.setIfInBounds_toArray, List.set_cons_zero, List.set_cons_succ, i64_w, i32_w]
         rfl
        refine take_ (i := 14) (N := some 48) (v := ?_) (a' := ?_) #[true, true, true, true, true, true, true, true, true, true, true, true, true, true, true, true, true, true, false, false, false, false, false] rfl rfl (take_ofW HT_.out HW_.out (by kernel_rfl)) (fun _ _ _ h => h) (Or.inl ⟨by rfl, ?_⟩) hHeld ?_ ?_
        rotate_left
        ·rintro w' ⟨s0, s1, s2, s3, s4, s5, s6, s7, s8⟩
         go_simp
         with_reducible rfl
        rotate_left
        ·simp only [Act.put, List.setIfInBounds_toArray, List.set_cons_zero, List.set_cons_succ, i64_w, i32_w]
         rfl
        refine take_ (i := 18) (N := some 52) (v := ?_) (a' := ?_) #[true, true, true, true, true, true, true, true, true, true, true, true, true, true, true, true, true, true, true, false, false, false, false] rfl rfl (take_ofW HT_.out HW_.out (by kernel_rfl)) (fun _ _ _ h => h) (Or.inl ⟨by rfl, ?_⟩) hHeld ?_ ?_
        rotate_left
        ·rintro w' ⟨s0, s1, s2, s3, s4, s5, s6, s7, s8⟩
         go_simp
         with_reducible rfl
        rotate_left
        ·simp only [Act.put, List.setIfInBounds_toArray, List.set_cons_zero, List.set_cons_succ, i64_w, i32_w]
         rfl
        refine pure_ (i := 19) (N := some 53) (v := ?_) (a' := ?_) #[true, true, true, true, true, true, true, true, true, true, true, true, true, true, true, true, true, true, true, true, false, false, false] rfl rfl (any_of HT_.out (by kernel_rfl)) (fun _ _ _ h => h) (Or.inl ⟨by rfl, ?_⟩) ?_ ?_
        rotate_left
        ·intro w'
         go_simp
         with_reducible rfl
        rotate_left
        ·simp only [Act.put, List.setIfInBounds_toArray, List.set_cons_zero, List.set_cons_succ, i64_w, i32_w]
         rfl
        refine pure_ (i := 20) (N := some 54) (v := ?_) (a' := ?_) #[true, true, true, true, true, true, true, true, true, true, true, true, true, true, true, true, true, true, true, true, true, false, false] rfl rfl (any_of HT_.out (by kernel_rfl)) (fun _ _ _ h => h) (Or.inl ⟨by rfl, ?_⟩) ?_ ?_
        rotate_left
        ·intro w'
         go_simp
         with_reducible rfl
        rotate_left
        ·simp only [Act.put, List.setIfInBounds_toArray, List.set_cons_zero, List.set_cons_succ, i64_w, i32_w]
         rfl
        refine pure_ (i := 21) (N := some 55) (v := ?_) (a' := ?_) #[true, true, true, true, true, true, true, true, true, true, true, true, true, true, true, true, true, true, true, true, true, true, false] rfl rfl (any_of HT_.out (by kernel_rfl)) (fun _ _ _ h => h) (Or.inl ⟨by rfl, ?_⟩) ?_ ?_
        rotate_left
        ·intro w'
         go_simp
         with_reducible rfl
        rotate_left
        ·simp only [Act.put, List.setIfInBounds_toArray, List.set_cons_zero, List.set_cons_succ, i64_w, i32_w]
         rfl
        refine one_ (i := 22) (N := none) #[true, true, true, true, true, true, true, true, true, true, true, true, true, true, true, true, true, true, true, true, true, true, true] rfl rfl (one_of HT_.out (by kernel_rfl)) (by decide) (fun K hK => ?_)
        have hs13 : w12.cell? ⟨gb153001, 0, none⟩ = some (.int .i64 0) := (blk_cell BK153001.out 0).trans rfl
        have hfs13 := blk_frozen BK153001.out 0
        have hs14 : w12.cell? ⟨gb153001, 1, none⟩ = some (.int .i64 0) := (blk_cell BK153001.out 1).trans rfl
        have hfs14 := blk_frozen BK153001.out 1
        have hs15 : w12.cell? ⟨gb153001, 2, none⟩ = some (.int .i64 0) := (blk_cell BK153001.out 2).trans rfl
        have hfs15 := blk_frozen BK153001.out 2
        have hs16 : w12.cell? ⟨gb153001, 3, none⟩ = some (.int .i64 0) := (blk_cell BK153001.out 3).trans rfl
        have hfs16 := blk_frozen BK153001.out 3
        refine skip_ (w1 := ?_) (by rfl) rfl ?_ ?_
        rotate_left
        ·go_simp
         rfl
        refine hK.out _ _ ⟨((cell_far (p := ⟨gb153001, _, none⟩) (by first | exact Nat.ne_of_lt (Nat.lt_of_lt_of_le (by have := World.block_lt_of_cell? _ _ hw153006_0; first | rwa [add_block] at this | exact this) GW153001.out) | (rw [add_block]; exact Nat.ne_of_lt (Nat.lt_of_lt_of_le (by have := World.block_lt_of_cell? _ _ hw153006_0; first | rwa [add_block] at this | exact this) GW153001.out)) | (show (Addr.add _ _).block ≠ _; rw [add_block]; exact Nat.ne_of_lt (Nat.lt_of_lt_of_le (by have := World.block_lt_of_cell? _ _ hw153006_0; first | rwa [add_block] at this | exact this) GW153001.out)) | (dsimp only; exact Nat.ne_of_lt (Nat.lt_of_lt_of_le (by have := World.block_lt_of_cell? _ _ hw153006_0; first | rwa [add_block] at this | exact this) GW153001.out))) _).trans (((cell_far (p := ⟨gb153001, _, none⟩) (by first | exact Nat.ne_of_lt (Nat.lt_of_lt_of_le (by have := World.block_lt_of_cell? _ _ hw153006_0; first | rwa [add_block] at this | exact this) GW153001.out) | (rw [add_block]; exact Nat.ne_of_lt (Nat.lt_of_lt_of_le (by have := World.block_lt_of_cell? _ _ hw153006_0; first | rwa [add_block] at this | exact this) GW153001.out)) | (show (Addr.add _ _).block ≠ _; rw [add_block]; exact Nat.ne_of_lt (Nat.lt_of_lt_of_le (by have := World.block_lt_of_cell? _ _ hw153006_0; first | rwa [add_block] at this | exact this) GW153001.out)) | (dsimp only; exact Nat.ne_of_lt (Nat.lt_of_lt_of_le (by have := World.block_lt_of_cell? _ _ hw153006_0; first | rwa [add_block] at this | exact this) GW153001.out))) _).trans (((cell_far (p := ⟨gb153001, _, none⟩) (by first | exact Nat.ne_of_lt (Nat.lt_of_lt_of_le (by have := World.block_lt_of_cell? _ _ hw153006_0; first | rwa [add_block] at this | exact this) GW153001.out) | (rw [add_block]; exact Nat.ne_of_lt (Nat.lt_of_lt_of_le (by have := World.block_lt_of_cell? _ _ hw153006_0; first | rwa [add_block] at this | exact this) GW153001.out)) | (show (Addr.add _ _).block ≠ _; rw [add_block]; exact Nat.ne_of_lt (Nat.lt_of_lt_of_le (by have := World.block_lt_of_cell? _ _ hw153006_0; first | rwa [add_block] at this | exact this) GW153001.out)) | (dsimp only; exact Nat.ne_of_lt (Nat.lt_of_lt_of_le (by have := World.block_lt_of_cell? _ _ hw153006_0; first | rwa [add_block] at this | exact this) GW153001.out))) _).trans (((cell_far (p := ⟨gb153001, _, none⟩) (by first | exact Nat.ne_of_lt (Nat.lt_of_lt_of_le (by have := World.block_lt_of_cell? _ _ hw153006_0; first | rwa [add_block] at this | exact this) GW153001.out) | (rw [add_block]; exact Nat.ne_of_lt (Nat.lt_of_lt_of_le (by have := World.block_lt_of_cell? _ _ hw153006_0; first | rwa [add_block] at this | exact this) GW153001.out)) | (show (Addr.add _ _).block ≠ _; rw [add_block]; exact Nat.ne_of_lt (Nat.lt_of_lt_of_le (by have := World.block_lt_of_cell? _ _ hw153006_0; first | rwa [add_block] at this | exact this) GW153001.out)) | (dsimp only; exact Nat.ne_of_lt (Nat.lt_of_lt_of_le (by have := World.block_lt_of_cell? _ _ hw153006_0; first | rwa [add_block] at this | exact this) GW153001.out))) _).trans (hHeld.1)))))))), ((cell_far (p := ⟨gb153001, _, none⟩) (by first | exact Nat.ne_of_lt (Nat.lt_of_lt_of_le (by have := World.block_lt_of_cell? _ _ hw153006_1; first | rwa [add_block] at this | exact this) GW153001.out) | (rw [add_block]; exact Nat.ne_of_lt (Nat.lt_of_lt_of_le (by have := World.block_lt_of_cell? _ _ hw153006_1; first | rwa [add_block] at this | exact this) GW153001.out)) | (show (Addr.add _ _).block ≠ _; rw [add_block]; exact Nat.ne_of_lt (Nat.lt_of_lt_of_le (by have := World.block_lt_of_cell? _ _ hw153006_1; first | rwa [add_block] at this | exact this) GW153001.out)) | (dsimp only; exact Nat.ne_of_lt (Nat.lt_of_lt_of_le (by have := World.block_lt_of_cell? _ _ hw153006_1; first | rwa [add_block] at this | exact this) GW153001.out))) _).trans (((cell_far (p := ⟨gb153001, _, none⟩) (by first | exact Nat.ne_of_lt (Nat.lt_of_lt_of_le (by have := World.block_lt_of_cell? _ _ hw153006_1; first | rwa [add_block] at this | exact this) GW153001.out) | (rw [add_block]; exact Nat.ne_of_lt (Nat.lt_of_lt_of_le (by have := World.block_lt_of_cell? _ _ hw153006_1; first | rwa [add_block] at this | exact this) GW153001.out)) | (show (Addr.add _ _).block ≠ _; rw [add_block]; exact Nat.ne_of_lt (Nat.lt_of_lt_of_le (by have := World.block_lt_of_cell? _ _ hw153006_1; first | rwa [add_block] at this | exact this) GW153001.out)) | (dsimp only; exact Nat.ne_of_lt (Nat.lt_of_lt_of_le (by have := World.block_lt_of_cell? _ _ hw153006_1; first | rwa [add_block] at this | exact this) GW153001.out))) _).trans (((cell_far (p := ⟨gb153001, _, none⟩) (by first | exact Nat.ne_of_lt (Nat.lt_of_lt_of_le (by have := World.block_lt_of_cell? _ _ hw153006_1; first | rwa [add_block] at this | exact this) GW153001.out) | (rw [add_block]; exact Nat.ne_of_lt (Nat.lt_of_lt_of_le (by have := World.block_lt_of_cell? _ _ hw153006_1; first | rwa [add_block] at this | exact this) GW153001.out)) | (show (Addr.add _ _).block ≠ _; rw [add_block]; exact Nat.ne_of_lt (Nat.lt_of_lt_of_le (by have := World.block_lt_of_cell? _ _ hw153006_1; first | rwa [add_block] at this | exact this) GW153001.out)) | (dsimp only; exact Nat.ne_of_lt (Nat.lt_of_lt_of_le (by have := World.block_lt_of_cell? _ _ hw153006_1; first | rwa [add_block] at this | exact this) GW153001.out))) _).trans (((cell_far (p := ⟨gb153001, _, none⟩) (by first | exact Nat.ne_of_lt (Nat.lt_of_lt_of_le (by have := World.block_lt_of_cell? _ _ hw153006_1; first | rwa [add_block] at this | exact this) GW153001.out) | (rw [add_block]; exact Nat.ne_of_lt (Nat.lt_of_lt_of_le (by have := World.block_lt_of_cell? _ _ hw153006_1; first | rwa [add_block] at this | exact this) GW153001.out)) | (show (Addr.add _ _).block ≠ _; rw [add_block]; exact Nat.ne_of_lt (Nat.lt_of_lt_of_le (by have := World.block_lt_of_cell? _ _ hw153006_1; first | rwa [add_block] at this | exact this) GW153001.out)) | (dsimp only; exact Nat.ne_of_lt (Nat.lt_of_lt_of_le (by have := World.block_lt_of_cell? _ _ hw153006_1; first | rwa [add_block] at this | exact this) GW153001.out))) _).trans (hHeld.2.1)))))))), ((cell_far (p := ⟨gb153001, _, none⟩) (by first | exact Nat.ne_of_lt (Nat.lt_of_lt_of_le (by have := World.block_lt_of_cell? _ _ hw153006_2; first | rwa [add_block] at this | exact this) GW153001.out) | (rw [add_block]; exact Nat.ne_of_lt (Nat.lt_of_lt_of_le (by have := World.block_lt_of_cell? _ _ hw153006_2; first | rwa [add_block] at this | exact this) GW153001.out)) | (show (Addr.add _ _).block ≠ _; rw [add_block]; exact Nat.ne_of_lt (Nat.lt_of_lt_of_le (by have := World.block_lt_of_cell? _ _ hw153006_2; first | rwa [add_block] at this | exact this) GW153001.out)) | (dsimp only; exact Nat.ne_of_lt (Nat.lt_of_lt_of_le (by have := World.block_lt_of_cell? _ _ hw153006_2; first | rwa [add_block] at this | exact this) GW153001.out))) _).trans (((cell_far (p := ⟨gb153001, _, none⟩) (by first | exact Nat.ne_of_lt (Nat.lt_of_lt_of_le (by have := World.block_lt_of_cell? _ _ hw153006_2; first | rwa [add_block] at this | exact this) GW153001.out) | (rw [add_block]; exact Nat.ne_of_lt (Nat.lt_of_lt_of_le (by have := World.block_lt_of_cell? _ _ hw153006_2; first | rwa [add_block] at this | exact this) GW153001.out)) | (show (Addr.add _ _).block ≠ _; rw [add_block]; exact Nat.ne_of_lt (Nat.lt_of_lt_of_le (by have := World.block_lt_of_cell? _ _ hw153006_2; first | rwa [add_block] at this | exact this) GW153001.out)) | (dsimp only; exact Nat.ne_of_lt (Nat.lt_of_lt_of_le (by have := World.block_lt_of_cell? _ _ hw153006_2; first | rwa [add_block] at this | exact this) GW153001.out))) _).trans (((cell_far (p := ⟨gb153001, _, none⟩) (by first | exact Nat.ne_of_lt (Nat.lt_of_lt_of_le (by have := World.block_lt_of_cell? _ _ hw153006_2; first | rwa [add_block] at this | exact this) GW153001.out) | (rw [add_block]; exact Nat.ne_of_lt (Nat.lt_of_lt_of_le (by have := World.block_lt_of_cell? _ _ hw153006_2; first | rwa [add_block] at this | exact this) GW153001.out)) | (show (Addr.add _ _).block ≠ _; rw [add_block]; exact Nat.ne_of_lt (Nat.lt_of_lt_of_le (by have := World.block_lt_of_cell? _ _ hw153006_2; first | rwa [add_block] at this | exact this) GW153001.out)) | (dsimp only; exact Nat.ne_of_lt (Nat.lt_of_lt_of_le (by have := World.block_lt_of_cell? _ _ hw153006_2; first | rwa [add_block] at this | exact this) GW153001.out))) _).trans (((cell_far (p := ⟨gb153001, _, none⟩) (by first | exact Nat.ne_of_lt (Nat.lt_of_lt_of_le (by have := World.block_lt_of_cell? _ _ hw153006_2; first | rwa [add_block] at this | exact this) GW153001.out) | (rw [add_block]; exact Nat.ne_of_lt (Nat.lt_of_lt_of_le (by have := World.block_lt_of_cell? _ _ hw153006_2; first | rwa [add_block] at this | exact this) GW153001.out)) | (show (Addr.add _ _).block ≠ _; rw [add_block]; exact Nat.ne_of_lt (Nat.lt_of_lt_of_le (by have := World.block_lt_of_cell? _ _ hw153006_2; first | rwa [add_block] at this | exact this) GW153001.out)) | (dsimp only; exact Nat.ne_of_lt (Nat.lt_of_lt_of_le (by have := World.block_lt_of_cell? _ _ hw153006_2; first | rwa [add_block] at this | exact this) GW153001.out))) _).trans (hHeld.2.2.1)))))))), ((cell_far (p := ⟨gb153001, _, none⟩) (by first | exact Nat.ne_of_lt (Nat.lt_of_lt_of_le (by have := World.block_lt_of_cell? _ _ hw153007_0; first | rwa [add_block] at this | exact this) GW153001.out) | (rw [add_block]; exact Nat.ne_of_lt (Nat.lt_of_lt_of_le (by have := World.block_lt_of_cell? _ _ hw153007_0; first | rwa [add_block] at this | exact this) GW153001.out)) | (show (Addr.add _ _).block ≠ _; rw [add_block]; exact Nat.ne_of_lt (Nat.lt_of_lt_of_le (by have := World.block_lt_of_cell? _ _ hw153007_0; first | rwa [add_block] at this | exact this) GW153001.out)) | (dsimp only; exact Nat.ne_of_lt (Nat.lt_of_lt_of_le (by have := World.block_lt_of_cell? _ _ hw153007_0; first | rwa [add_block] at this | exact this) GW153001.out))) _).trans (((cell_far (p := ⟨gb153001, _, none⟩) (by first | exact Nat.ne_of_lt (Nat.lt_of_lt_of_le (by have := World.block_lt_of_cell? _ _ hw153007_0; first | rwa [add_block] at this | exact this) GW153001.out) | (rw [add_block]; exact Nat.ne_of_lt (Nat.lt_of_lt_of_le (by have := World.block_lt_of_cell? _ _ hw153007_0; first | rwa [add_block] at this | exact this) GW153001.out)) | (show (Addr.add _ _).block ≠ _; rw [add_block]; exact Nat.ne_of_lt (Nat.lt_of_lt_of_le (by have := World.block_lt_of_cell? _ _ hw153007_0; first | rwa [add_block] at this | exact this) GW153001.out)) | (dsimp only; exact Nat.ne_of_lt (Nat.lt_of_lt_of_le (by have := World.block_lt_of_cell? _ _ hw153007_0; first | rwa [add_block] at this | exact this) GW153001.out))) _).trans (((cell_far (p := ⟨gb153001, _, none⟩) (by first | exact Nat.ne_of_lt (Nat.lt_of_lt_of_le (by have := World.block_lt_of_cell? _ _ hw153007_0; first | rwa [add_block] at this | exact this) GW153001.out) | (rw [add_block]; exact Nat.ne_of_lt (Nat.lt_of_lt_of_le (by have := World.block_lt_of_cell? _ _ hw153007_0; first | rwa [add_block] at this | exact this) GW153001.out)) | (show (Addr.add _ _).block ≠ _; rw [add_block]; exact Nat.ne_of_lt (Nat.lt_of_lt_of_le (by have := World.block_lt_of_cell? _ _ hw153007_0; first | rwa [add_block] at this | exact this) GW153001.out)) | (dsimp only; exact Nat.ne_of_lt (Nat.lt_of_lt_of_le (by have := World.block_lt_of_cell? _ _ hw153007_0; first | rwa [add_block] at this | exact this) GW153001.out))) _).trans (((cell_far (p := ⟨gb153001, _, none⟩) (by first | exact Nat.ne_of_lt (Nat.lt_of_lt_of_le (by have := World.block_lt_of_cell? _ _ hw153007_0; first | rwa [add_block] at this | exact this) GW153001.out) | (rw [add_block]; exact Nat.ne_of_lt (Nat.lt_of_lt_of_le (by have := World.block_lt_of_cell? _ _ hw153007_0; first | rwa [add_block] at this | exact this) GW153001.out)) | (show (Addr.add _ _).block ≠ _; rw [add_block]; exact Nat.ne_of_lt (Nat.lt_of_lt_of_le (by have := World.block_lt_of_cell? _ _ hw153007_0; first | rwa [add_block] at this | exact this) GW153001.out)) | (dsimp only; exact Nat.ne_of_lt (Nat.lt_of_lt_of_le (by have := World.block_lt_of_cell? _ _ hw153007_0; first | rwa [add_block] at this | exact this) GW153001.out))) _).trans (hHeld.2.2.2.1)))))))), ((cell_far (p := ⟨gb153001, _, none⟩) (by first | exact Nat.ne_of_lt (Nat.lt_of_lt_of_le (by have := World.block_lt_of_cell? _ _ hw153007_1; first | rwa [add_block] at this | exact this) GW153001.out) | (rw [add_block]; exact Nat.ne_of_lt (Nat.lt_of_lt_of_le (by have := World.block_lt_of_cell? _ _ hw153007_1; first | rwa [add_block] at this | exact this) GW153001.out)) | (show (Addr.add _ _).block ≠ _; rw [add_block]; exact Nat.ne_of_lt (Nat.lt_of_lt_of_le (by have := World.block_lt_of_cell? _ _ hw153007_1; first | rwa [add_block] at this | exact this) GW153001.out)) | (dsimp only; exact Nat.ne_of_lt (Nat.lt_of_lt_of_le (by have := World.block_lt_of_cell? _ _ hw153007_1; first | rwa [add_block] at this | exact this) GW153001.out))) _).trans (((cell_far (p := ⟨gb153001, _, none⟩) (by first | exact Nat.ne_of_lt (Nat.lt_of_lt_of_le (by have := World.block_lt_of_cell? _ _ hw153007_1; first | rwa [add_block] at this | exact this) GW153001.out) | (rw [add_block]; exact Nat.ne_of_lt (Nat.lt_of_lt_of_le (by have := World.block_lt_of_cell? _ _ hw153007_1; first | rwa [add_block] at this | exact this) GW153001.out)) | (show (Addr.add _ _).block ≠ _; rw [add_block]; exact Nat.ne_of_lt (Nat.lt_of_lt_of_le (by have := World.block_lt_of_cell? _ _ hw153007_1; first | rwa [add_block] at this | exact this) GW153001.out)) | (dsimp only; exact Nat.ne_of_lt (Nat.lt_of_lt_of_le (by have := World.block_lt_of_cell? _ _ hw153007_1; first | rwa [add_block] at this | exact this) GW153001.out))) _).trans (((cell_far (p := ⟨gb153001, _, none⟩) (by first | exact Nat.ne_of_lt (Nat.lt_of_lt_of_le (by have := World.block_lt_of_cell? _ _ hw153007_1; first | rwa [add_block] at this | exact this) GW153001.out) | (rw [add_block]; exact Nat.ne_of_lt (Nat.lt_of_lt_of_le (by have := World.block_lt_of_cell? _ _ hw153007_1; first | rwa [add_block] at this | exact this) GW153001.out)) | (show (Addr.add _ _).block ≠ _; rw [add_block]; exact Nat.ne_of_lt (Nat.lt_of_lt_of_le (by have := World.block_lt_of_cell? _ _ hw153007_1; first | rwa [add_block] at this | exact this) GW153001.out)) | (dsimp only; exact Nat.ne_of_lt (Nat.lt_of_lt_of_le (by have := World.block_lt_of_cell? _ _ hw153007_1; first | rwa [add_block] at this | exact this) GW153001.out))) _).trans (((cell_far (p := ⟨gb153001, _, none⟩) (by first | exact Nat.ne_of_lt (Nat.lt_of_lt_of_le (by have := World.block_lt_of_cell? _ _ hw153007_1; first | rwa [add_block] at this | exact this) GW153001.out) | (rw [add_block]; exact Nat.ne_of_lt (Nat.lt_of_lt_of_le (by have := World.block_lt_of_cell? _ _ hw153007_1; first | rwa [add_block] at this | exact this) GW153001.out)) | (show (Addr.add _ _).block ≠ _; rw [add_block]; exact Nat.ne_of_lt (Nat.lt_of_lt_of_le (by have := World.block_lt_of_cell? _ _ hw153007_1; first | rwa [add_block] at this | exact this) GW153001.out)) | (dsimp only; exact Nat.ne_of_lt (Nat.lt_of_lt_of_le (by have := World.block_lt_of_cell? _ _ hw153007_1; first | rwa [add_block] at this | exact this) GW153001.out))) _).trans (hHeld.2.2.2.2.1)))))))), ((cell_far (p := ⟨gb153001, _, none⟩) (by first | exact Nat.ne_of_lt (Nat.lt_of_lt_of_le (by have := World.block_lt_of_cell? _ _ hw153007_2; first | rwa [add_block] at this | exact this) GW153001.out) | (rw [add_block]; exact Nat.ne_of_lt (Nat.lt_of_lt_of_le (by have := World.block_lt_of_cell? _ _ hw153007_2; first | rwa [add_block] at this | exact this) GW153001.out)) | (show (Addr.add _ _).block ≠ _; rw [add_block]; exact Nat.ne_of_lt (Nat.lt_of_lt_of_le (by have := World.block_lt_of_cell? _ _ hw153007_2; first | rwa [add_block] at this | exact this) GW153001.out)) | (dsimp only; exact Nat.ne_of_lt (Nat.lt_of_lt_of_le (by have := World.block_lt_of_cell? _ _ hw153007_2; first | rwa [add_block] at this | exact this) GW153001.out))) _).trans (((cell_far (p := ⟨gb153001, _, none⟩) (by first | exact Nat.ne_of_lt (Nat.lt_of_lt_of_le (by have := World.block_lt_of_cell? _ _ hw153007_2; first | rwa [add_block] at this | exact this) GW153001.out) | (rw [add_block]; exact Nat.ne_of_lt (Nat.lt_of_lt_of_le (by have := World.block_lt_of_cell? _ _ hw153007_2; first | rwa [add_block] at this | exact this) GW153001.out)) | (show (Addr.add _ _).block ≠ _; rw [add_block]; exact Nat.ne_of_lt (Nat.lt_of_lt_of_le (by have := World.block_lt_of_cell? _ _ hw153007_2; first | rwa [add_block] at this | exact this) GW153001.out)) | (dsimp only; exact Nat.ne_of_lt (Nat.lt_of_lt_of_le (by have := World.block_lt_of_cell? _ _ hw153007_2; first | rwa [add_block] at this | exact this) GW153001.out))) _).trans (((cell_far (p := ⟨gb153001, _, none⟩) (by first | exact Nat.ne_of_lt (Nat.lt_of_lt_of_le (by have := World.block_lt_of_cell? _ _ hw153007_2; first | rwa [add_block] at this | exact this) GW153001.out) | (rw [add_block]; exact Nat.ne_of_lt (Nat.lt_of_lt_of_le (by have := World.block_lt_of_cell? _ _ hw153007_2; first | rwa [add_block] at this | exact this) GW153001.out)) | (show (Addr.add _ _).block ≠ _; rw [add_block]; exact Nat.ne_of_lt (Nat.lt_of_lt_of_le (by have := World.block_lt_of_cell? _ _ hw153007_2; first | rwa [add_block] at this | exact this) GW153001.out)) | (dsimp only; exact Nat.ne_of_lt (Nat.lt_of_lt_of_le (by have := World.block_lt_of_cell? _ _ hw153007_2; first | rwa [add_block] at this | exact this) GW153001.out))) _).trans (((cell_far (p := ⟨gb153001, _, none⟩) (by first | exact Nat.ne_of_lt (Nat.lt_of_lt_of_le (by have := World.block_lt_of_cell? _ _ hw153007_2; first | rwa [add_block] at this | exact this) GW153001.out) | (rw [add_block]; exact Nat.ne_of_lt (Nat.lt_of_lt_of_le (by have := World.block_lt_of_cell? _ _ hw153007_2; first | rwa [add_block] at this | exact this) GW153001.out)) | (show (Addr.add _ _).block ≠ _; rw [add_block]; exact Nat.ne_of_lt (Nat.lt_of_lt_of_le (by have := World.block_lt_of_cell? _ _ hw153007_2; first | rwa [add_block] at this | exact this) GW153001.out)) | (dsimp only; exact Nat.ne_of_lt (Nat.lt_of_lt_of_le (by have := World.block_lt_of_cell? _ _ hw153007_2; first | rwa [add_block] at this | exact this) GW153001.out))) _).trans (hHeld.2.2.2.2.2.1)))))))), ((cell_far (p := ⟨gb153001, _, none⟩) (by first | exact Nat.ne_of_lt (Nat.lt_of_lt_of_le (by have := World.block_lt_of_cell? _ _ hw153008_0; first | rwa [add_block] at this | exact this) GW153001.out) | (rw [add_block]; exact Nat.ne_of_lt (Nat.lt_of_lt_of_le (by have := World.block_lt_of_cell? _ _ hw153008_0; first | rwa [add_block] at this | exact this) GW153001.out)) | (show (Addr.add _ _).block ≠ _; rw [add_block]; exact Nat.ne_of_lt (Nat.lt_of_lt_of_le (by have := World.block_lt_of_cell? _ _ hw153008_0; first | rwa [add_block] at this | exact this) GW153001.out)) | (dsimp only; exact Nat.ne_of_lt (Nat.lt_of_lt_of_le (by have := World.block_lt_of_cell? _ _ hw153008_0; first | rwa [add_block] at this | exact this) GW153001.out))) _).trans (((cell_far (p := ⟨gb153001, _, none⟩) (by first | exact Nat.ne_of_lt (Nat.lt_of_lt_of_le (by have := World.block_lt_of_cell? _ _ hw153008_0; first | rwa [add_block] at this | exact this) GW153001.out) | (rw [add_block]; exact Nat.ne_of_lt (Nat.lt_of_lt_of_le (by have := World.block_lt_of_cell? _ _ hw153008_0; first | rwa [add_block] at this | exact this) GW153001.out)) | (show (Addr.add _ _).block ≠ _; rw [add_block]; exact Nat.ne_of_lt (Nat.lt_of_lt_of_le (by have := World.block_lt_of_cell? _ _ hw153008_0; first | rwa [add_block] at this | exact this) GW153001.out)) | (dsimp only; exact Nat.ne_of_lt (Nat.lt_of_lt_of_le (by have := World.block_lt_of_cell? _ _ hw153008_0; first | rwa [add_block] at this | exact this) GW153001.out))) _).trans (((cell_far (p := ⟨gb153001, _, none⟩) (by first | exact Nat.ne_of_lt (Nat.lt_of_lt_of_le (by have := World.block_lt_of_cell? _ _ hw153008_0; first | rwa [add_block] at this | exact this) GW153001.out) | (rw [add_block]; exact Nat.ne_of_lt (Nat.lt_of_lt_of_le (by have := World.block_lt_of_cell? _ _ hw153008_0; first | rwa [add_block] at this | exact this) GW153001.out)) | (show (Addr.add _ _).block ≠ _; rw [add_block]; exact Nat.ne_of_lt (Nat.lt_of_lt_of_le (by have := World.block_lt_of_cell? _ _ hw153008_0; first | rwa [add_block] at this | exact this) GW153001.out)) | (dsimp only; exact Nat.ne_of_lt (Nat.lt_of_lt_of_le (by have := World.block_lt_of_cell? _ _ hw153008_0; first | rwa [add_block] at this | exact this) GW153001.out))) _).trans (((cell_far (p := ⟨gb153001, _, none⟩) (by first | exact Nat.ne_of_lt (Nat.lt_of_lt_of_le (by have := World.block_lt_of_cell? _ _ hw153008_0; first | rwa [add_block] at this | exact this) GW153001.out) | (rw [add_block]; exact Nat.ne_of_lt (Nat.lt_of_lt_of_le (by have := World.block_lt_of_cell? _ _ hw153008_0; first | rwa [add_block] at this | exact this) GW153001.out)) | (show (Addr.add _ _).block ≠ _; rw [add_block]; exact Nat.ne_of_lt (Nat.lt_of_lt_of_le (by have := World.block_lt_of_cell? _ _ hw153008_0; first | rwa [add_block] at this | exact this) GW153001.out)) | (dsimp only; exact Nat.ne_of_lt (Nat.lt_of_lt_of_le (by have := World.block_lt_of_cell? _ _ hw153008_0; first | rwa [add_block] at this | exact this) GW153001.out))) _).trans (hHeld.2.2.2.2.2.2.1)))))))), ((cell_far (p := ⟨gb153001, _, none⟩) (by first | exact Nat.ne_of_lt (Nat.lt_of_lt_of_le (by have := World.block_lt_of_cell? _ _ hw153008_1; first | rwa [add_block] at this | exact this) GW153001.out) | (rw [add_block]; exact Nat.ne_of_lt (Nat.lt_of_lt_of_le (by have := World.block_lt_of_cell? _ _ hw153008_1; first | rwa [add_block] at this | exact this) GW153001.out)) | (show (Addr.add _ _).block ≠ _; rw [add_block]; exact Nat.ne_of_lt (Nat.lt_of_lt_of_le (by have := World.block_lt_of_cell? _ _ hw153008_1; first | rwa [add_block] at this | exact this) GW153001.out)) | (dsimp only; exact Nat.ne_of_lt (Nat.lt_of_lt_of_le (by have := World.block_lt_of_cell? _ _ hw153008_1; first | rwa [add_block] at this | exact this) GW153001.out))) _).trans (((cell_far (p := ⟨gb153001, _, none⟩) (by first | exact Nat.ne_of_lt (Nat.lt_of_lt_of_le (by have := World.block_lt_of_cell? _ _ hw153008_1; first | rwa [add_block] at this | exact this) GW153001.out) | (rw [add_block]; exact Nat.ne_of_lt (Nat.lt_of_lt_of_le (by have := World.block_lt_of_cell? _ _ hw153008_1; first | rwa [add_block] at this | exact this) GW153001.out)) | (show (Addr.add _ _).block ≠ _; rw [add_block]; exact Nat.ne_of_lt (Nat.lt_of_lt_of_le (by have := World.block_lt_of_cell? _ _ hw153008_1; first | rwa [add_block] at this | exact this) GW153001.out)) | (dsimp only; exact Nat.ne_of_lt (Nat.lt_of_lt_of_le (by have := World.block_lt_of_cell? _ _ hw153008_1; first | rwa [add_block] at this | exact this) GW153001.out))) _).trans (((cell_far (p := ⟨gb153001, _, none⟩) (by first | exact Nat.ne_of_lt (Nat.lt_of_lt_of_le (by have := World.block_lt_of_cell? _ _ hw153008_1; first | rwa [add_block] at this | exact this) GW153001.out) | (rw [add_block]; exact Nat.ne_of_lt (Nat.lt_of_lt_of_le (by have := World.block_lt_of_cell? _ _ hw153008_1; first | rwa [add_block] at this | exact this) GW153001.out)) | (show (Addr.add _ _).block ≠ _; rw [add_block]; exact Nat.ne_of_lt (Nat.lt_of_lt_of_le (by have := World.block_lt_of_cell? _ _ hw153008_1; first | rwa [add_block] at this | exact this) GW153001.out)) | (dsimp only; exact Nat.ne_of_lt (Nat.lt_of_lt_of_le (by have := World.block_lt_of_cell? _ _ hw153008_1; first | rwa [add_block] at this | exact this) GW153001.out))) _).trans (((cell_far (p := ⟨gb153001, _, none⟩) (by first | exact Nat.ne_of_lt (Nat.lt_of_lt_of_le (by have := World.block_lt_of_cell? _ _ hw153008_1; first | rwa [add_block] at this | exact this) GW153001.out) | (rw [add_block]; exact Nat.ne_of_lt (Nat.lt_of_lt_of_le (by have := World.block_lt_of_cell? _ _ hw153008_1; first | rwa [add_block] at this | exact this) GW153001.out)) | (show (Addr.add _ _).block ≠ _; rw [add_block]; exact Nat.ne_of_lt (Nat.lt_of_lt_of_le (by have := World.block_lt_of_cell? _ _ hw153008_1; first | rwa [add_block] at this | exact this) GW153001.out)) | (dsimp only; exact Nat.ne_of_lt (Nat.lt_of_lt_of_le (by have := World.block_lt_of_cell? _ _ hw153008_1; first | rwa [add_block] at this | exact this) GW153001.out))) _).trans (hHeld.2.2.2.2.2.2.2.1)))))))), ((cell_far (p := ⟨gb153001, _, none⟩) (by first | exact Nat.ne_of_lt (Nat.lt_of_lt_of_le (by have := World.block_lt_of_cell? _ _ hw153008_2; first | rwa [add_block] at this | exact this) GW153001.out) | (rw [add_block]; exact Nat.ne_of_lt (Nat.lt_of_lt_of_le (by have := World.block_lt_of_cell? _ _ hw153008_2; first | rwa [add_block] at this | exact this) GW153001.out)) | (show (Addr.add _ _).block ≠ _; rw [add_block]; exact Nat.ne_of_lt (Nat.lt_of_lt_of_le (by have := World.block_lt_of_cell? _ _ hw153008_2; first | rwa [add_block] at this | exact this) GW153001.out)) | (dsimp only; exact Nat.ne_of_lt (Nat.lt_of_lt_of_le (by have := World.block_lt_of_cell? _ _ hw153008_2; first | rwa [add_block] at this | exact this) GW153001.out))) _).trans (((cell_far (p := ⟨gb153001, _, none⟩) (by first | exact Nat.ne_of_lt (Nat.lt_of_lt_of_le (by have := World.block_lt_of_cell? _ _ hw153008_2; first | rwa [add_block] at this | exact this) GW153001.out) | (rw [add_block]; exact Nat.ne_of_lt (Nat.lt_of_lt_of_le (by have := World.block_lt_of_cell? _ _ hw153008_2; first | rwa [add_block] at this | exact this) GW153001.out)) | (show (Addr.add _ _).block ≠ _; rw [add_block]; exact Nat.ne_of_lt (Nat.lt_of_lt_of_le (by have := World.block_lt_of_cell? _ _ hw153008_2; first | rwa [add_block] at this | exact this) GW153001.out)) | (dsimp only; exact Nat.ne_of_lt (Nat.lt_of_lt_of_le (by have := World.block_lt_of_cell? _ _ hw153008_2; first | rwa [add_block] at this | exact this) GW153001.out))) _).trans (((cell_far (p := ⟨gb153001, _, none⟩) (by first | exact Nat.ne_of_lt (Nat.lt_of_lt_of_le (by have := World.block_lt_of_cell? _ _ hw153008_2; first | rwa [add_block] at this | exact this) GW153001.out) | (rw [add_block]; exact Nat.ne_of_lt (Nat.lt_of_lt_of_le (by have := World.block_lt_of_cell? _ _ hw153008_2; first | rwa [add_block] at this | exact this) GW153001.out)) | (show (Addr.add _ _).block ≠ _; rw [add_block]; exact Nat.ne_of_lt (Nat.lt_of_lt_of_le (by have := World.block_lt_of_cell? _ _ hw153008_2; first | rwa [add_block] at this | exact this) GW153001.out)) | (dsimp only; exact Nat.ne_of_lt (Nat.lt_of_lt_of_le (by have := World.block_lt_of_cell? _ _ hw153008_2; first | rwa [add_block] at this | exact this) GW153001.out))) _).trans (((cell_far (p := ⟨gb153001, _, none⟩) (by first | exact Nat.ne_of_lt (Nat.lt_of_lt_of_le (by have := World.block_lt_of_cell? _ _ hw153008_2; first | rwa [add_block] at this | exact this) GW153001.out) | (rw [add_block]; exact Nat.ne_of_lt (Nat.lt_of_lt_of_le (by have := World.block_lt_of_cell? _ _ hw153008_2; first | rwa [add_block] at this | exact this) GW153001.out)) | (show (Addr.add _ _).block ≠ _; rw [add_block]; exact Nat.ne_of_lt (Nat.lt_of_lt_of_le (by have := World.block_lt_of_cell? _ _ hw153008_2; first | rwa [add_block] at this | exact this) GW153001.out)) | (dsimp only; exact Nat.ne_of_lt (Nat.lt_of_lt_of_le (by have := World.block_lt_of_cell? _ _ hw153008_2; first | rwa [add_block] at this | exact this) GW153001.out))) _).trans (hHeld.2.2.2.2.2.2.2.2))))))))⟩ (fun hHeld => ?_)
        clear hK K
        refine done_ (done_of HT_.out (by kernel_rfl)) ?_
        try go_wp2
        refine bodyPost_ret (results_cell_row rfl _ _ gb153001 47 #[.int .i64 x3_1, .int .i64 ((rd_T118 l0 0).f0), .int .i64 (wrap64 (x4_1 - x3_1)), .int .i64 (wrap64 ((wrap64 (((rd_T118 l0 (ji9)).f0) - ((rd_T118 l0 0).f0))) + 1))] (0, 0) _ rfl (by (with_reducible repeat (first | refine blk_drewN ?_ _ | refine blk_drew ?_ | refine blk_alloc ?_ _)); refine blk_put (cs := #[.int .i64 x3_1, .int .i64 ((rd_T118 l0 0).f0), .int .i64 (wrap64 (x4_1 - x3_1)), .int .i64 0]) ?_ 3 _ rfl; (with_reducible repeat (first | refine blk_drewN ?_ _ | refine blk_drew ?_ | refine blk_alloc ?_ _)); refine blk_put (cs := #[.int .i64 x3_1, .int .i64 ((rd_T118 l0 0).f0), .int .i64 0, .int .i64 0]) ?_ 2 _ rfl; (with_reducible repeat (first | refine blk_drewN ?_ _ | refine blk_drew ?_ | refine blk_alloc ?_ _)); refine blk_put (cs := #[.int .i64 x3_1, .int .i64 0, .int .i64 0, .int .i64 0]) ?_ 1 _ rfl; (with_reducible repeat (first | refine blk_drewN ?_ _ | refine blk_drew ?_ | refine blk_alloc ?_ _)); refine blk_put (cs := #[.int .i64 0, .int .i64 0, .int .i64 0, .int .i64 0]) ?_ 0 _ rfl; (with_reducible repeat (first | refine blk_drewN ?_ _ | refine blk_drew ?_ | refine blk_alloc ?_ _)); exact BK153001.out) Try.underlying47 rfl (by kernel_rfl)) rfl ?_
        exact ⟨by first | rfl | (simp [errW_none, errW_some] <;> rfl) | (simp only [← hji9]; first | rfl | (simp [errW_none, errW_some] <;> rfl)) | (simp [*, errW_none, errW_some] <;> rfl), by repeat (first | (with_reducible first | exact HB.out | apply below_alloc | apply pw_below_drewN | apply below_drew1 | refine below_set ?_ GE153001.out) | exact HB.out)⟩
       ·rw [if_neg c11] at H
        exact absurd H (by simp)
      ·rw [if_neg c10] at H
       exact absurd H (by simp)
     ·rw [if_neg c8] at H
      exact absurd H (by simp)
 ·rw [if_neg c2] at H
  exact absurd H (by simp)


def spec_anyBox.f (k : Nat) (s0_0 : List Int) (s0_1 : Int) : Option (Int × Int × Int × Int × Int) := (spec_reader_one.f k s0_0 s0_1 (([0, 1, 2, (-1), 0, 4] : List Int))).bind fun bt129005 => ((spec_reader_one.f k s0_0 bt129005.2 (([0, 1, 0, 2, (-1)] : List Int))).bind fun bt129010 => ((spec_reader_one.f k s0_0 bt129010.2 (([1, 2, 3, 1, 0, 16] : List Int))).bind fun bt129015 => ((spec_reader_one.f k s0_0 bt129015.2 (([1, 2, 1, 3, 0] : List Int))).bind fun bt129020 => (some (bt129005.1, bt129010.1, bt129015.1, bt129020.1, bt129020.2)))))
theorem spec_anyBox.calls (k : Nat) (g : Nat) (s0_0 : List Int) (s0_1 : Int) (r1 : Int) (r2 : Int) (r3 : Int) (r4 : Int) (r5 : Int) (w0 w : World) (hI : IsS144 w0 w g s0_0 s0_1) (hB : Below w0.heap.size w0 w) (h : spec_anyBox.f k s0_0 s0_1 = some (r1, r2, r3, r4, r5)) :
  Calls Try.prog 128 #[.pointer (some ⟨g, 0, none⟩)] w fun e w' => e = .returned (.agg #[.int .i64 r1, .int .i64 r2, .int .i64 r3, .int .i64 r4]) ∧ IsS144 w0 w' g s0_0 r5 ∧ Below w0.heap.size w0 w' ∧ KeepBut w w' g none := by
 have hu47 := Try.underlying47
 have HI0 := mk hI
 have HK := mk (KeepBut.refl w g none)
 have HL := mk hB.size
 clear hI
 have HW0 := mk hB.size
 have HB := mk hB
 clear hB
 have H : ((spec_reader_one.f k s0_0 s0_1 (([0, 1, 2, (-1), 0, 4] : List Int))).bind fun bt129005 => ((spec_reader_one.f k s0_0 bt129005.2 (([0, 1, 0, 2, (-1)] : List Int))).bind fun bt129010 => ((spec_reader_one.f k s0_0 bt129010.2 (([1, 2, 3, 1, 0, 16] : List Int))).bind fun bt129015 => ((spec_reader_one.f k s0_0 bt129015.2 (([1, 2, 1, 3, 0] : List Int))).bind fun bt129020 => (some (bt129005.1, bt129010.1, bt129015.1, bt129020.1, bt129020.2)))))) = some (r1, r2, r3, r4, r5) := h
 clear h
 obtain ⟨y129002, hy129002⟩ : ∃ y_ : List Int, y_ = (([0, 1, 2, (-1), 0, 4] : List Int)) := ⟨_, rfl⟩
 replace H : ((spec_reader_one.f k s0_0 s0_1 y129002).bind fun bt129005 => ((spec_reader_one.f k s0_0 bt129005.2 (([0, 1, 0, 2, (-1)] : List Int))).bind fun bt129010 => ((spec_reader_one.f k s0_0 bt129010.2 (([1, 2, 3, 1, 0, 16] : List Int))).bind fun bt129015 => ((spec_reader_one.f k s0_0 bt129015.2 (([1, 2, 1, 3, 0] : List Int))).bind fun bt129020 => (some (bt129005.1, bt129010.1, bt129015.1, bt129020.1, bt129020.2)))))) = some (r1, r2, r3, r4, r5) := by first | (rw [hy129002]; with_reducible exact H) | (have H2_ := (Option.bind_some _ _).symm.trans H; rw [hy129002]; with_reducible exact H2_) | (have H2_ := (Option.bind_some _ _).symm.trans H; with_reducible exact H2_) | with_reducible exact H | (rw [hy129002]; exact H) | exact H
 have Ny129002 := mk hy129002
 clear hy129002
 replace H := Option.bind_eq_some_iff.mp H
 obtain ⟨⟨t129005, t129006⟩, A20, H⟩ := H
 replace H : ((spec_reader_one.f k s0_0 t129006 (([0, 1, 0, 2, (-1)] : List Int))).bind fun bt129010 => ((spec_reader_one.f k s0_0 bt129010.2 (([1, 2, 3, 1, 0, 16] : List Int))).bind fun bt129015 => ((spec_reader_one.f k s0_0 bt129015.2 (([1, 2, 1, 3, 0] : List Int))).bind fun bt129020 => (some (t129005, bt129010.1, bt129015.1, bt129020.1, bt129020.2))))) = some (r1, r2, r3, r4, r5) := H
 have A2 := mk A20
 clear A20
 obtain ⟨y129007, hy129007⟩ : ∃ y_ : List Int, y_ = (([0, 1, 0, 2, (-1)] : List Int)) := ⟨_, rfl⟩
 replace H : ((spec_reader_one.f k s0_0 t129006 y129007).bind fun bt129010 => ((spec_reader_one.f k s0_0 bt129010.2 (([1, 2, 3, 1, 0, 16] : List Int))).bind fun bt129015 => ((spec_reader_one.f k s0_0 bt129015.2 (([1, 2, 1, 3, 0] : List Int))).bind fun bt129020 => (some (t129005, bt129010.1, bt129015.1, bt129020.1, bt129020.2))))) = some (r1, r2, r3, r4, r5) := by first | (rw [hy129007]; with_reducible exact H) | (have H2_ := (Option.bind_some _ _).symm.trans H; rw [hy129007]; with_reducible exact H2_) | (have H2_ := (Option.bind_some _ _).symm.trans H; with_reducible exact H2_) | with_reducible exact H | (rw [hy129007]; exact H) | exact H
 have Ny129007 := mk hy129007
 clear hy129007
 replace H := Option.bind_eq_some_iff.mp H
 obtain ⟨⟨t129010, t129011⟩, A30, H⟩ := H
 replace H : ((spec_reader_one.f k s0_0 t129011 (([1, 2, 3, 1, 0, 16] : List Int))).bind fun bt129015 => ((spec_reader_one.f k s0_0 bt129015.2 (([1, 2, 1, 3, 0] : List Int))).bind fun bt129020 => (some (t129005, t129010, bt129015.1, bt129020.1, bt129020.2)))) = some (r1, r2, r3, r4, r5) := H
 have A3 := mk A30
 clear A30
 obtain ⟨y129012, hy129012⟩ : ∃ y_ : List Int, y_ = (([1, 2, 3, 1, 0, 16] : List Int)) := ⟨_, rfl⟩
 replace H : ((spec_reader_one.f k s0_0 t129011 y129012).bind fun bt129015 => ((spec_reader_one.f k s0_0 bt129015.2 (([1, 2, 1, 3, 0] : List Int))).bind fun bt129020 => (some (t129005, t129010, bt129015.1, bt129020.1, bt129020.2)))) = some (r1, r2, r3, r4, r5) := by first | (rw [hy129012]; with_reducible exact H) | (have H2_ := (Option.bind_some _ _).symm.trans H; rw [hy129012]; with_reducible exact H2_) | (have H2_ := (Option.bind_some _ _).symm.trans H; with_reducible exact H2_) | with_reducible exact H | (rw [hy129012]; exact H) | exact H
 have Ny129012 := mk hy129012
 clear hy129012
 replace H := Option.bind_eq_some_iff.mp H
 obtain ⟨⟨t129015, t129016⟩, A40, H⟩ := H
 replace H : ((spec_reader_one.f k s0_0 t129016 (([1, 2, 1, 3, 0] : List Int))).bind fun bt129020 => (some (t129005, t129010, t129015, bt129020.1, bt129020.2))) = some (r1, r2, r3, r4, r5) := H
 have A4 := mk A40
 clear A40
 obtain ⟨y129017, hy129017⟩ : ∃ y_ : List Int, y_ = (([1, 2, 1, 3, 0] : List Int)) := ⟨_, rfl⟩
 replace H : ((spec_reader_one.f k s0_0 t129016 y129017).bind fun bt129020 => (some (t129005, t129010, t129015, bt129020.1, bt129020.2))) = some (r1, r2, r3, r4, r5) := by first | (rw [hy129017]; with_reducible exact H) | (have H2_ := (Option.bind_some _ _).symm.trans H; rw [hy129017]; with_reducible exact H2_) | (have H2_ := (Option.bind_some _ _).symm.trans H; with_reducible exact H2_) | with_reducible exact H | (rw [hy129017]; exact H) | exact H
 have Ny129017 := mk hy129017
 clear hy129017
 replace H := Option.bind_eq_some_iff.mp H
 obtain ⟨⟨t129020, t129021⟩, A50, H⟩ := H
 replace H : (some (t129005, t129010, t129015, t129020, t129021)) = some (r1, r2, r3, r4, r5) := H
 have A5 := mk A50
 clear A50
 simp only [Option.some.injEq, Prod.mk.injEq] at H
 obtain ⟨rfl, rfl, rfl, rfl, rfl⟩ := H
 go_enter Try.func128, Try.ntmps128
 go_wp2_with (first | ((with_reducible refine gate_dst (N := 2) rfl ?_); refine box_event ?hg (N := 2) ?hd (cs := #[.int .i64 0, .int .i64 0, .int .i64 0, .int .i64 0]) (t := 47) ?hr ?_; (case hd => rfl); (case hg => rfl); (case hr => first | (go_simp; done) | (go_simp; rfl)); intro gb129001 hg w6 hbox hb; have n0_ := mk (IsS144.below (by repeat (first | (with_reducible first | exact HI0.out | apply IsS144.alloc | apply IsS144.drewN | apply IsS144.drew | apply IsS144.set_1) | exact HI0.out)) hb); have n1_ := mk (KeepBut.trans (by repeat (first | (with_reducible first | exact HK.out | apply KeepBut.set_ | apply keep_drewN | apply keep_drew | apply keep_alloc) | exact HK.out)) (KeepBut.of_below hb g none) (.inl rfl)); have n2_ := mk (below_step (by repeat (first | (with_reducible first | exact HB.out | apply below_alloc | apply pw_below_drewN | apply below_drew1 | refine below_set ?_ (IsS144.ge HI0.out)) | exact HB.out)) hb); have n3_ := mk (hbox); have n4_ := mk ((by rw [hg]; exact (keep_size (w := w) (g := g) (row := none) (by repeat (first | (with_reducible first | exact HK.out | apply KeepBut.set_ | apply keep_drewN | apply keep_drew | apply keep_alloc) | exact HK.out))) : w.heap.size ≤ gb129001)); have n5_ := mk ((Nat.le_trans HW0.out (by rw [hg]; exact (keep_size (w := w) (g := g) (row := none) (by repeat (first | (with_reducible first | exact HK.out | apply KeepBut.set_ | apply keep_drewN | apply keep_drew | apply keep_alloc) | exact HK.out))) : w.heap.size ≤ gb129001) : w0.heap.size ≤ gb129001)); have n6_ := mk ((by rw [hg]; exact Nat.ne_of_lt (IsS144.lt (show IsS144 w0 _ g s0_0 s0_1 from by repeat (first | (with_reducible first | exact HI0.out | apply IsS144.alloc | apply IsS144.drewN | apply IsS144.drew | apply IsS144.set_1) | exact HI0.out))) : g ≠ gb129001)); have n7_ := mk ((by rw [hg]; exact Nat.ne_of_gt (IsS144.lt (show IsS144 w0 _ g s0_0 s0_1 from by repeat (first | (with_reducible first | exact HI0.out | apply IsS144.alloc | apply IsS144.drewN | apply IsS144.drew | apply IsS144.set_1) | exact HI0.out))) : gb129001 ≠ g)); clear HI0; clear HK; clear HB; have HI0 := n0_; have HK := n1_; have HB := n2_; have BK129001 := n3_; have GW129001 := n4_; have GE129001 := n5_; have NB0_129001 := n6_; have NB129001_0 := n7_; clear n0_ n1_ n2_ n3_ n4_ n5_ n6_ n7_; clear hb hbox hg) | ((with_reducible refine gate_dst (N := 4) rfl ?_); refine Kd.R_lit (Kd.int .i64) _ 3 ?hg (N := 4) ?hd (xs := ([0, 1, 2, (-1), 0, 4] : List Int)) (inner := [.int .i64 0, .int .i64 1, .int .i64 2, .int .i64 (-1), .int .i64 0, .int .i64 4]) (ok := fun _ => True) (okp := fun _ => True) ?hr ?hp (fun _ hk => hk) trivial (Below.refl _ _) (Nat.le_refl _) (by simp) ?_; (case hd => rfl); (case hg => rfl); (case hr => first | (go_simp; done) | (go_simp; rfl)); (case hp => exact (Reps.one (show Kd.M (Kd.int .i64) _ _ _ 0 [.int .i64 0] from rfl) (Reps.one (show Kd.M (Kd.int .i64) _ _ _ 1 [.int .i64 1] from rfl) (Reps.one (show Kd.M (Kd.int .i64) _ _ _ 2 [.int .i64 2] from rfl) (Reps.one (show Kd.M (Kd.int .i64) _ _ _ (-1) [.int .i64 (-1)] from rfl) (Reps.one (show Kd.M (Kd.int .i64) _ _ _ 0 [.int .i64 0] from rfl) (Reps.one (show Kd.M (Kd.int .i64) _ _ _ 4 [.int .i64 4] from rfl) (Reps.none _ _)))))))); intro v129003 w7 ho8 hb hg_ hnew_; clear hg_ hnew_; (first | rw [← Ny129002.out] at ho8 | (simp only [Int.reduceToNat] at ho8; rw [← Ny129002.out] at ho8)); have n0_ := mk (Kd.R_lower ho8 (keep_size (w := w) (g := g) (row := none) (by repeat (first | (with_reducible first | exact HK.out | apply KeepBut.set_ | apply keep_drewN | apply keep_drew | apply keep_alloc | refine keep_far ?_ GW129001.out _) | exact HK.out)))); have n1_ := mk (IsS144.below (by repeat (first | (with_reducible first | exact HI0.out | apply IsS144.alloc | apply IsS144.drewN | apply IsS144.drew | apply IsS144.set_1 | refine IsS144.far ?_ NB0_129001.out _) | exact HI0.out)) hb); have n2_ := mk (blk_below (g := gb129001) (o := .cells #[.int .i64 0, .int .i64 0, .int .i64 0, .int .i64 0] 47 (0, 0)) (by (with_reducible repeat (first | refine blk_drewN ?_ _ | refine blk_drew ?_ | refine blk_alloc ?_ _)); exact BK129001.out) hb); have n3_ := mk (KeepBut.trans (by repeat (first | (with_reducible first | exact HK.out | apply KeepBut.set_ | apply keep_drewN | apply keep_drew | apply keep_alloc | refine keep_far ?_ GW129001.out _) | exact HK.out)) (KeepBut.of_below hb g none) (.inl rfl)); have n4_ := mk (below_step (by repeat (first | (with_reducible first | exact HB.out | apply below_alloc | apply pw_below_drewN | apply below_drew1 | refine below_set ?_ (IsS144.ge HI0.out) | refine below_set ?_ GE129001.out) | exact HB.out)) hb); clear HI0; clear BK129001; clear HK; clear HB; have HO129004 := n0_; have HI0 := n1_; have BK129001 := n2_; have HK := n3_; have HB := n4_; clear n0_ n1_ n2_ n3_ n4_; clear hb ho8; obtain ⟨Ao9, co9, eo9⟩ := Kd.R_slice HO129004.out; subst eo9) | ((with_reducible refine gate_callee (f := 147) rfl ?_); refine goesL_ (some 5) rfl rfl Try.func147 (by kernel_rfl) rfl #[.pointer (some ⟨g, 0, none⟩), .slice Ao9 y129002.length co9] rfl (by (try simp only [List.map_toArray, List.map_cons, List.map_nil]); first | done | rfl | (simp only [List.length_drop, List.length_take]; rfl)) ?_; (with_reducible refine (spec_reader_one.calls k g s0_0 s0_1 _ _ y129002 t129005 t129006 w0 _ ?side1 ?side2 ?side3 ?side4 ?side5 A2.out).mono ?_); (case side1 => repeat (first | (with_reducible first | exact HI0.out | apply IsS144.alloc | apply IsS144.drewN | apply IsS144.drew | apply IsS144.set_1 | refine IsS144.far ?_ NB0_129001.out _) | exact HI0.out)); (case side2 => repeat (first | (with_reducible first | exact HB.out | apply below_alloc | apply pw_below_drewN | apply below_drew1 | refine below_set ?_ (IsS144.ge HI0.out) | refine below_set ?_ GE129001.out) | exact HB.out)); (case side3 => repeat (first | exact (Kd.R_reads' HO129004.out).2.2 | (with_reducible refine Kd.C_alloc ?_ _) | (with_reducible refine Kd.C_drewN ?_ _) | (with_reducible refine Kd.C_drew ?_))); (case side4 => exact (Kd.R_reads' HO129004.out).2.1); (case side5 => exact far_slice (IsS144.own_ne HI0.out HO129004.out (by decide))); rintro e w10 ⟨rfl, hi, hb, hk⟩; refine ⟨_, rfl, ?_⟩; have n0_ := mk (KeepBut.blk hk (g' := gb129001) (o := .cells #[.int .i64 0, .int .i64 0, .int .i64 0, .int .i64 0] 47 (0, 0)) (by (with_reducible repeat (first | refine blk_drewN ?_ _ | refine blk_drew ?_ | refine blk_alloc ?_ _)); exact BK129001.out) NB129001_0.out (by simp)); have n1_ := mk (Kd.R_mono (Kd.R_keep (IsS144.apart (show IsS144 w0 _ g s0_0 s0_1 from by repeat (first | (with_reducible first | exact HI0.out | apply IsS144.alloc | apply IsS144.drewN | apply IsS144.drew | apply IsS144.set_1 | refine IsS144.far ?_ NB0_129001.out _) | exact HI0.out)) (by (with_reducible repeat (first | apply Kd.R_alloc | apply Kd.R_drewN | apply Kd.R_drew)); exact HO129004.out) (by decide)) hk (fun _ h => h.2)) (fun _ h => h.1)); have n2_ := mk (KeepBut.trans (by repeat (first | (with_reducible first | exact HK.out | apply KeepBut.set_ | apply keep_drewN | apply keep_drew | apply keep_alloc | refine keep_far ?_ GW129001.out _) | exact HK.out)) hk (.inl rfl)); have n3_ := mk (hb); have n4_ := mk (hi); clear BK129001; clear HO129004; clear HK; clear HB; clear HI0; have BK129001 := n0_; have HO129004 := n1_; have HK := n2_; have HB := n3_; have HI0 := n4_; clear n0_ n1_ n2_ n3_ n4_; (try clear hb); (try clear hb2); (try clear hk); (try clear hi)) | ((with_reducible refine gate_dst (N := 7) rfl ?_); refine Kd.R_lit (Kd.int .i64) _ 3 ?hg (N := 7) ?hd (xs := ([0, 1, 0, 2, (-1)] : List Int)) (inner := [.int .i64 0, .int .i64 1, .int .i64 0, .int .i64 2, .int .i64 (-1)]) (ok := fun _ => True) (okp := fun _ => True) ?hr ?hp (fun _ hk => hk) trivial (Below.refl _ _) (Nat.le_refl _) (by simp) ?_; (case hd => rfl); (case hg => rfl); (case hr => first | (go_simp; done) | (go_simp; rfl)); (case hp => exact (Reps.one (show Kd.M (Kd.int .i64) _ _ _ 0 [.int .i64 0] from rfl) (Reps.one (show Kd.M (Kd.int .i64) _ _ _ 1 [.int .i64 1] from rfl) (Reps.one (show Kd.M (Kd.int .i64) _ _ _ 0 [.int .i64 0] from rfl) (Reps.one (show Kd.M (Kd.int .i64) _ _ _ 2 [.int .i64 2] from rfl) (Reps.one (show Kd.M (Kd.int .i64) _ _ _ (-1) [.int .i64 (-1)] from rfl) (Reps.none _ _))))))); intro v129008 w11 ho12 hb hg_ hnew_; clear hg_ hnew_; (first | rw [← Ny129007.out] at ho12 | (simp only [Int.reduceToNat] at ho12; rw [← Ny129007.out] at ho12)); have n0_ := mk (Kd.R_elder' (by (with_reducible repeat (first | apply Kd.R_alloc | apply Kd.R_drewN | apply Kd.R_drew)); exact HO129004.out) (Kd.R_base ho12) hb); have n1_ := mk (Kd.R_lower (Kd.R_new' ho12 (Kd.R_lt (by (with_reducible repeat (first | apply Kd.R_alloc | apply Kd.R_drewN | apply Kd.R_drew)); exact HO129004.out))) (keep_size (w := w) (g := g) (row := none) (by repeat (first | (with_reducible first | exact HK.out | apply KeepBut.set_ | apply keep_drewN | apply keep_drew | apply keep_alloc | refine keep_far ?_ GW129001.out _) | exact HK.out)))); have n2_ := mk (IsS144.below (by repeat (first | (with_reducible first | exact HI0.out | apply IsS144.alloc | apply IsS144.drewN | apply IsS144.drew | apply IsS144.set_1 | refine IsS144.far ?_ NB0_129001.out _) | exact HI0.out)) hb); have n3_ := mk (blk_below (g := gb129001) (o := .cells #[.int .i64 0, .int .i64 0, .int .i64 0, .int .i64 0] 47 (0, 0)) (by (with_reducible repeat (first | refine blk_drewN ?_ _ | refine blk_drew ?_ | refine blk_alloc ?_ _)); exact BK129001.out) hb); have n4_ := mk (KeepBut.trans (by repeat (first | (with_reducible first | exact HK.out | apply KeepBut.set_ | apply keep_drewN | apply keep_drew | apply keep_alloc | refine keep_far ?_ GW129001.out _) | exact HK.out)) (KeepBut.of_below hb g none) (.inl rfl)); have n5_ := mk (below_step (by repeat (first | (with_reducible first | exact HB.out | apply below_alloc | apply pw_below_drewN | apply below_drew1 | refine below_set ?_ (IsS144.ge HI0.out) | refine below_set ?_ GE129001.out) | exact HB.out)) hb); clear HO129004; clear HI0; clear BK129001; clear HK; clear HB; have HO129004 := n0_; have HO129009 := n1_; have HI0 := n2_; have BK129001 := n3_; have HK := n4_; have HB := n5_; clear n0_ n1_ n2_ n3_ n4_ n5_; clear hb ho12; obtain ⟨Ao13, co13, eo13⟩ := Kd.R_slice HO129009.out; subst eo13) | ((with_reducible refine gate_callee (f := 147) rfl ?_); refine goesL_ (some 8) rfl rfl Try.func147 (by kernel_rfl) rfl #[.pointer (some ⟨g, 0, none⟩), .slice Ao13 y129007.length co13] rfl (by (try simp only [List.map_toArray, List.map_cons, List.map_nil]); first | done | rfl | (simp only [List.length_drop, List.length_take]; rfl)) ?_; (with_reducible refine (spec_reader_one.calls k g s0_0 t129006 _ _ y129007 t129010 t129011 w0 _ ?side1 ?side2 ?side3 ?side4 ?side5 A3.out).mono ?_); (case side1 => repeat (first | (with_reducible first | exact HI0.out | apply IsS144.alloc | apply IsS144.drewN | apply IsS144.drew | apply IsS144.set_1 | refine IsS144.far ?_ NB0_129001.out _) | exact HI0.out)); (case side2 => repeat (first | (with_reducible first | exact HB.out | apply below_alloc | apply pw_below_drewN | apply below_drew1 | refine below_set ?_ (IsS144.ge HI0.out) | refine below_set ?_ GE129001.out) | exact HB.out)); (case side3 => repeat (first | exact (Kd.R_reads' HO129009.out).2.2 | (with_reducible refine Kd.C_alloc ?_ _) | (with_reducible refine Kd.C_drewN ?_ _) | (with_reducible refine Kd.C_drew ?_))); (case side4 => exact (Kd.R_reads' HO129009.out).2.1); (case side5 => exact far_slice (IsS144.own_ne HI0.out HO129009.out (by decide))); rintro e w14 ⟨rfl, hi, hb, hk⟩; refine ⟨_, rfl, ?_⟩; have n0_ := mk (KeepBut.blk hk (g' := gb129001) (o := .cells #[.int .i64 0, .int .i64 0, .int .i64 0, .int .i64 0] 47 (0, 0)) (by (with_reducible repeat (first | refine blk_drewN ?_ _ | refine blk_drew ?_ | refine blk_alloc ?_ _)); exact BK129001.out) NB129001_0.out (by simp)); have n1_ := mk (Kd.R_mono (Kd.R_keep (IsS144.apart (show IsS144 w0 _ g s0_0 t129006 from by repeat (first | (with_reducible first | exact HI0.out | apply IsS144.alloc | apply IsS144.drewN | apply IsS144.drew | apply IsS144.set_1 | refine IsS144.far ?_ NB0_129001.out _) | exact HI0.out)) (by (with_reducible repeat (first | apply Kd.R_alloc | apply Kd.R_drewN | apply Kd.R_drew)); exact HO129004.out) (by decide)) hk (fun _ h => h.2)) (fun _ h => h.1)); have n2_ := mk (Kd.R_mono (Kd.R_keep (IsS144.apart (show IsS144 w0 _ g s0_0 t129006 from by repeat (first | (with_reducible first | exact HI0.out | apply IsS144.alloc | apply IsS144.drewN | apply IsS144.drew | apply IsS144.set_1 | refine IsS144.far ?_ NB0_129001.out _) | exact HI0.out)) (by (with_reducible repeat (first | apply Kd.R_alloc | apply Kd.R_drewN | apply Kd.R_drew)); exact HO129009.out) (by decide)) hk (fun _ h => h.2)) (fun _ h => h.1)); have n3_ := mk (KeepBut.trans (by repeat (first | (with_reducible first | exact HK.out | apply KeepBut.set_ | apply keep_drewN | apply keep_drew | apply keep_alloc | refine keep_far ?_ GW129001.out _) | exact HK.out)) hk (.inl rfl)); have n4_ := mk (hb); have n5_ := mk (hi); clear BK129001; clear HO129004; clear HO129009; clear HK; clear HB; clear HI0; have BK129001 := n0_; have HO129004 := n1_; have HO129009 := n2_; have HK := n3_; have HB := n4_; have HI0 := n5_; clear n0_ n1_ n2_ n3_ n4_ n5_; (try clear hb); (try clear hb2); (try clear hk); (try clear hi)) | ((with_reducible refine gate_dst (N := 10) rfl ?_); refine Kd.R_lit (Kd.int .i64) _ 3 ?hg (N := 10) ?hd (xs := ([1, 2, 3, 1, 0, 16] : List Int)) (inner := [.int .i64 1, .int .i64 2, .int .i64 3, .int .i64 1, .int .i64 0, .int .i64 16]) (ok := fun _ => True) (okp := fun _ => True) ?hr ?hp (fun _ hk => hk) trivial (Below.refl _ _) (Nat.le_refl _) (by simp) ?_; (case hd => rfl); (case hg => rfl); (case hr => first | (go_simp; done) | (go_simp; rfl)); (case hp => exact (Reps.one (show Kd.M (Kd.int .i64) _ _ _ 1 [.int .i64 1] from rfl) (Reps.one (show Kd.M (Kd.int .i64) _ _ _ 2 [.int .i64 2] from rfl) (Reps.one (show Kd.M (Kd.int .i64) _ _ _ 3 [.int .i64 3] from rfl) (Reps.one (show Kd.M (Kd.int .i64) _ _ _ 1 [.int .i64 1] from rfl) (Reps.one (show Kd.M (Kd.int .i64) _ _ _ 0 [.int .i64 0] from rfl) (Reps.one (show Kd.M (Kd.int .i64) _ _ _ 16 [.int .i64 16] from rfl) (Reps.none _ _)))))))); intro v129013 w15 ho16 hb hg_ hnew_; clear hg_ hnew_; (first | rw [← Ny129012.out] at ho16 | (simp only [Int.reduceToNat] at ho16; rw [← Ny129012.out] at ho16)); have n0_ := mk (Kd.R_elder' (by (with_reducible repeat (first | apply Kd.R_alloc | apply Kd.R_drewN | apply Kd.R_drew)); exact HO129004.out) (Kd.R_base ho16) hb); have n1_ := mk (Kd.R_elder' (by (with_reducible repeat (first | apply Kd.R_alloc | apply Kd.R_drewN | apply Kd.R_drew)); exact HO129009.out) (Kd.R_base ho16) hb); have n2_ := mk (Kd.R_lower (Kd.R_new' (Kd.R_new' ho16 (Kd.R_lt (by (with_reducible repeat (first | apply Kd.R_alloc | apply Kd.R_drewN | apply Kd.R_drew)); exact HO129004.out))) (Kd.R_lt (by (with_reducible repeat (first | apply Kd.R_alloc | apply Kd.R_drewN | apply Kd.R_drew)); exact HO129009.out))) (keep_size (w := w) (g := g) (row := none) (by repeat (first | (with_reducible first | exact HK.out | apply KeepBut.set_ | apply keep_drewN | apply keep_drew | apply keep_alloc | refine keep_far ?_ GW129001.out _) | exact HK.out)))); have n3_ := mk (IsS144.below (by repeat (first | (with_reducible first | exact HI0.out | apply IsS144.alloc | apply IsS144.drewN | apply IsS144.drew | apply IsS144.set_1 | refine IsS144.far ?_ NB0_129001.out _) | exact HI0.out)) hb); have n4_ := mk (blk_below (g := gb129001) (o := .cells #[.int .i64 0, .int .i64 0, .int .i64 0, .int .i64 0] 47 (0, 0)) (by (with_reducible repeat (first | refine blk_drewN ?_ _ | refine blk_drew ?_ | refine blk_alloc ?_ _)); exact BK129001.out) hb); have n5_ := mk (KeepBut.trans (by repeat (first | (with_reducible first | exact HK.out | apply KeepBut.set_ | apply keep_drewN | apply keep_drew | apply keep_alloc | refine keep_far ?_ GW129001.out _) | exact HK.out)) (KeepBut.of_below hb g none) (.inl rfl)); have n6_ := mk (below_step (by repeat (first | (with_reducible first | exact HB.out | apply below_alloc | apply pw_below_drewN | apply below_drew1 | refine below_set ?_ (IsS144.ge HI0.out) | refine below_set ?_ GE129001.out) | exact HB.out)) hb); clear HO129004; clear HO129009; clear HI0; clear BK129001; clear HK; clear HB; have HO129004 := n0_; have HO129009 := n1_; have HO129014 := n2_; have HI0 := n3_; have BK129001 := n4_; have HK := n5_; have HB := n6_; clear n0_ n1_ n2_ n3_ n4_ n5_ n6_; clear hb ho16; obtain ⟨Ao17, co17, eo17⟩ := Kd.R_slice HO129014.out; subst eo17) | ((with_reducible refine gate_callee (f := 147) rfl ?_); refine goesL_ (some 11) rfl rfl Try.func147 (by kernel_rfl) rfl #[.pointer (some ⟨g, 0, none⟩), .slice Ao17 y129012.length co17] rfl (by (try simp only [List.map_toArray, List.map_cons, List.map_nil]); first | done | rfl | (simp only [List.length_drop, List.length_take]; rfl)) ?_; (with_reducible refine (spec_reader_one.calls k g s0_0 t129011 _ _ y129012 t129015 t129016 w0 _ ?side1 ?side2 ?side3 ?side4 ?side5 A4.out).mono ?_); (case side1 => repeat (first | (with_reducible first | exact HI0.out | apply IsS144.alloc | apply IsS144.drewN | apply IsS144.drew | apply IsS144.set_1 | refine IsS144.far ?_ NB0_129001.out _) | exact HI0.out)); (case side2 => repeat (first | (with_reducible first | exact HB.out | apply below_alloc | apply pw_below_drewN | apply below_drew1 | refine below_set ?_ (IsS144.ge HI0.out) | refine below_set ?_ GE129001.out) | exact HB.out)); (case side3 => repeat (first | exact (Kd.R_reads' HO129014.out).2.2 | (with_reducible refine Kd.C_alloc ?_ _) | (with_reducible refine Kd.C_drewN ?_ _) | (with_reducible refine Kd.C_drew ?_))); (case side4 => exact (Kd.R_reads' HO129014.out).2.1); (case side5 => exact far_slice (IsS144.own_ne HI0.out HO129014.out (by decide))); rintro e w18 ⟨rfl, hi, hb, hk⟩; refine ⟨_, rfl, ?_⟩; have n0_ := mk (KeepBut.blk hk (g' := gb129001) (o := .cells #[.int .i64 0, .int .i64 0, .int .i64 0, .int .i64 0] 47 (0, 0)) (by (with_reducible repeat (first | refine blk_drewN ?_ _ | refine blk_drew ?_ | refine blk_alloc ?_ _)); exact BK129001.out) NB129001_0.out (by simp)); have n1_ := mk (Kd.R_mono (Kd.R_keep (IsS144.apart (show IsS144 w0 _ g s0_0 t129011 from by repeat (first | (with_reducible first | exact HI0.out | apply IsS144.alloc | apply IsS144.drewN | apply IsS144.drew | apply IsS144.set_1 | refine IsS144.far ?_ NB0_129001.out _) | exact HI0.out)) (by (with_reducible repeat (first | apply Kd.R_alloc | apply Kd.R_drewN | apply Kd.R_drew)); exact HO129004.out) (by decide)) hk (fun _ h => h.2)) (fun _ h => h.1)); have n2_ := mk (Kd.R_mono (Kd.R_keep (IsS144.apart (show IsS144 w0 _ g s0_0 t129011 from by repeat (first | (with_reducible first | exact HI0.out | apply IsS144.alloc | apply IsS144.drewN | apply IsS144.drew | apply IsS144.set_1 | refine IsS144.far ?_ NB0_129001.out _) | exact HI0.out)) (by (with_reducible repeat (first | apply Kd.R_alloc | apply Kd.R_drewN | apply Kd.R_drew)); exact HO129009.out) (by decide)) hk (fun _ h => h.2)) (fun _ h => h.1)); have n3_ := mk (Kd.R_mono (Kd.R_keep (IsS144.apart (show IsS144 w0 _ g s0_0 t129011 from by repeat (first | (with_reducible first | exact HI0.out | apply IsS144.alloc | apply IsS144.drewN | apply IsS144.drew | apply IsS144.set_1 | refine IsS144.far ?_ NB0_129001.out _) | exact HI0.out)) (by (with_reducible repeat (first | apply Kd.R_alloc | apply Kd.R_drewN | apply Kd.R_drew)); exact HO129014.out) (by decide)) hk (fun _ h => h.2)) (fun _ h => h.1)); have n4_ := mk (KeepBut.trans (by repeat (first | (with_reducible first | exact HK.out | apply KeepBut.set_ | apply keep_drewN | apply keep_drew | apply keep_alloc | refine keep_far ?_ GW129001.out _) | exact HK.out)) hk (.inl rfl)); have n5_ := mk (hb); have n6_ := mk (hi); clear BK129001; clear HO129004; clear HO129009; clear HO129014; clear HK; clear HB; clear HI0; have BK129001 := n0_; have HO129004 := n1_; have HO129009 := n2_; have HO129014 := n3_; have HK := n4_; have HB := n5_; have HI0 := n6_; clear n0_ n1_ n2_ n3_ n4_ n5_ n6_; (try clear hb); (try clear hb2); (try clear hk); (try clear hi)) | ((with_reducible refine gate_dst (N := 13) rfl ?_); refine Kd.R_lit (Kd.int .i64) _ 3 ?hg (N := 13) ?hd (xs := ([1, 2, 1, 3, 0] : List Int)) (inner := [.int .i64 1, .int .i64 2, .int .i64 1, .int .i64 3, .int .i64 0]) (ok := fun _ => True) (okp := fun _ => True) ?hr ?hp (fun _ hk => hk) trivial (Below.refl _ _) (Nat.le_refl _) (by simp) ?_; (case hd => rfl); (case hg => rfl); (case hr => first | (go_simp; done) | (go_simp; rfl)); (case hp => exact (Reps.one (show Kd.M (Kd.int .i64) _ _ _ 1 [.int .i64 1] from rfl) (Reps.one (show Kd.M (Kd.int .i64) _ _ _ 2 [.int .i64 2] from rfl) (Reps.one (show Kd.M (Kd.int .i64) _ _ _ 1 [.int .i64 1] from rfl) (Reps.one (show Kd.M (Kd.int .i64) _ _ _ 3 [.int .i64 3] from rfl) (Reps.one (show Kd.M (Kd.int .i64) _ _ _ 0 [.int .i64 0] from rfl) (Reps.none _ _))))))); intro v129018 w19 ho20 hb hg_ hnew_; clear hg_ hnew_; (first | rw [← Ny129017.out] at ho20 | (simp only [Int.reduceToNat] at ho20; rw [← Ny129017.out] at ho20)); have n0_ := mk (Kd.R_elder' (by (with_reducible repeat (first | apply Kd.R_alloc | apply Kd.R_drewN | apply Kd.R_drew)); exact HO129004.out) (Kd.R_base ho20) hb); have n1_ := mk (Kd.R_elder' (by (with_reducible repeat (first | apply Kd.R_alloc | apply Kd.R_drewN | apply Kd.R_drew)); exact HO129009.out) (Kd.R_base ho20) hb); have n2_ := mk (Kd.R_elder' (by (with_reducible repeat (first | apply Kd.R_alloc | apply Kd.R_drewN | apply Kd.R_drew)); exact HO129014.out) (Kd.R_base ho20) hb); have n3_ := mk (Kd.R_lower (Kd.R_new' (Kd.R_new' (Kd.R_new' ho20 (Kd.R_lt (by (with_reducible repeat (first | apply Kd.R_alloc | apply Kd.R_drewN | apply Kd.R_drew)); exact HO129004.out))) (Kd.R_lt (by (with_reducible repeat (first | apply Kd.R_alloc | apply Kd.R_drewN | apply Kd.R_drew)); exact HO129009.out))) (Kd.R_lt (by (with_reducible repeat (first | apply Kd.R_alloc | apply Kd.R_drewN | apply Kd.R_drew)); exact HO129014.out))) (keep_size (w := w) (g := g) (row := none) (by repeat (first | (with_reducible first | exact HK.out | apply KeepBut.set_ | apply keep_drewN | apply keep_drew | apply keep_alloc | refine keep_far ?_ GW129001.out _) | exact HK.out)))); have n4_ := mk (IsS144.below (by repeat (first | (with_reducible first | exact HI0.out | apply IsS144.alloc | apply IsS144.drewN | apply IsS144.drew | apply IsS144.set_1 | refine IsS144.far ?_ NB0_129001.out _) | exact HI0.out)) hb); have n5_ := mk (blk_below (g := gb129001) (o := .cells #[.int .i64 0, .int .i64 0, .int .i64 0, .int .i64 0] 47 (0, 0)) (by (with_reducible repeat (first | refine blk_drewN ?_ _ | refine blk_drew ?_ | refine blk_alloc ?_ _)); exact BK129001.out) hb); have n6_ := mk (KeepBut.trans (by repeat (first | (with_reducible first | exact HK.out | apply KeepBut.set_ | apply keep_drewN | apply keep_drew | apply keep_alloc | refine keep_far ?_ GW129001.out _) | exact HK.out)) (KeepBut.of_below hb g none) (.inl rfl)); have n7_ := mk (below_step (by repeat (first | (with_reducible first | exact HB.out | apply below_alloc | apply pw_below_drewN | apply below_drew1 | refine below_set ?_ (IsS144.ge HI0.out) | refine below_set ?_ GE129001.out) | exact HB.out)) hb); clear HO129004; clear HO129009; clear HO129014; clear HI0; clear BK129001; clear HK; clear HB; have HO129004 := n0_; have HO129009 := n1_; have HO129014 := n2_; have HO129019 := n3_; have HI0 := n4_; have BK129001 := n5_; have HK := n6_; have HB := n7_; clear n0_ n1_ n2_ n3_ n4_ n5_ n6_ n7_; clear hb ho20; obtain ⟨Ao21, co21, eo21⟩ := Kd.R_slice HO129019.out; subst eo21) | ((with_reducible refine gate_callee (f := 147) rfl ?_); refine goesL_ (some 14) rfl rfl Try.func147 (by kernel_rfl) rfl #[.pointer (some ⟨g, 0, none⟩), .slice Ao21 y129017.length co21] rfl (by (try simp only [List.map_toArray, List.map_cons, List.map_nil]); first | done | rfl | (simp only [List.length_drop, List.length_take]; rfl)) ?_; (with_reducible refine (spec_reader_one.calls k g s0_0 t129016 _ _ y129017 t129020 t129021 w0 _ ?side1 ?side2 ?side3 ?side4 ?side5 A5.out).mono ?_); (case side1 => repeat (first | (with_reducible first | exact HI0.out | apply IsS144.alloc | apply IsS144.drewN | apply IsS144.drew | apply IsS144.set_1 | refine IsS144.far ?_ NB0_129001.out _) | exact HI0.out)); (case side2 => repeat (first | (with_reducible first | exact HB.out | apply below_alloc | apply pw_below_drewN | apply below_drew1 | refine below_set ?_ (IsS144.ge HI0.out) | refine below_set ?_ GE129001.out) | exact HB.out)); (case side3 => repeat (first | exact (Kd.R_reads' HO129019.out).2.2 | (with_reducible refine Kd.C_alloc ?_ _) | (with_reducible refine Kd.C_drewN ?_ _) | (with_reducible refine Kd.C_drew ?_))); (case side4 => exact (Kd.R_reads' HO129019.out).2.1); (case side5 => exact far_slice (IsS144.own_ne HI0.out HO129019.out (by decide))); rintro e w22 ⟨rfl, hi, hb, hk⟩; refine ⟨_, rfl, ?_⟩; have n0_ := mk (KeepBut.blk hk (g' := gb129001) (o := .cells #[.int .i64 0, .int .i64 0, .int .i64 0, .int .i64 0] 47 (0, 0)) (by (with_reducible repeat (first | refine blk_drewN ?_ _ | refine blk_drew ?_ | refine blk_alloc ?_ _)); exact BK129001.out) NB129001_0.out (by simp)); have n1_ := mk (Kd.R_mono (Kd.R_keep (IsS144.apart (show IsS144 w0 _ g s0_0 t129016 from by repeat (first | (with_reducible first | exact HI0.out | apply IsS144.alloc | apply IsS144.drewN | apply IsS144.drew | apply IsS144.set_1 | refine IsS144.far ?_ NB0_129001.out _) | exact HI0.out)) (by (with_reducible repeat (first | apply Kd.R_alloc | apply Kd.R_drewN | apply Kd.R_drew)); exact HO129004.out) (by decide)) hk (fun _ h => h.2)) (fun _ h => h.1)); have n2_ := mk (Kd.R_mono (Kd.R_keep (IsS144.apart (show IsS144 w0 _ g s0_0 t129016 from by repeat (first | (with_reducible first | exact HI0.out | apply IsS144.alloc | apply IsS144.drewN | apply IsS144.drew | apply IsS144.set_1 | refine IsS144.far ?_ NB0_129001.out _) | exact HI0.out)) (by (with_reducible repeat (first | apply Kd.R_alloc | apply Kd.R_drewN | apply Kd.R_drew)); exact HO129009.out) (by decide)) hk (fun _ h => h.2)) (fun _ h => h.1)); have n3_ := mk (Kd.R_mono (Kd.R_keep (IsS144.apart (show IsS144 w0 _ g s0_0 t129016 from by repeat (first | (with_reducible first | exact HI0.out | apply IsS144.alloc | apply IsS144.drewN | apply IsS144.drew | apply IsS144.set_1 | refine IsS144.far ?_ NB0_129001.out _) | exact HI0.out)) (by (with_reducible repeat (first | apply Kd.R_alloc | apply Kd.R_drewN | apply Kd.R_drew)); exact HO129014.out) (by decide)) hk (fun _ h => h.2)) (fun _ h => h.1)); have n4_ := mk (Kd.R_mono (Kd.R_keep (IsS144.apart (show IsS144 w0 _ g s0_0 t129016 from by repeat (first | (with_reducible first | exact HI0.out | apply IsS144.alloc | apply IsS144.drewN | apply IsS144.drew | apply IsS144.set_1 | refine IsS144.far ?_ NB0_129001.out _) | exact HI0.out)) (by (with_reducible repeat (first | apply Kd.R_alloc | apply Kd.R_drewN | apply Kd.R_drew)); exact HO129019.out) (by decide)) hk (fun _ h => h.2)) (fun _ h => h.1)); have n5_ := mk (KeepBut.trans (by repeat (first | (with_reducible first | exact HK.out | apply KeepBut.set_ | apply keep_drewN | apply keep_drew | apply keep_alloc | refine keep_far ?_ GW129001.out _) | exact HK.out)) hk (.inl rfl)); have n6_ := mk (hb); have n7_ := mk (hi); clear BK129001; clear HO129004; clear HO129009; clear HO129014; clear HO129019; clear HK; clear HB; clear HI0; have BK129001 := n0_; have HO129004 := n1_; have HO129009 := n2_; have HO129014 := n3_; have HO129019 := n4_; have HK := n5_; have HB := n6_; have HI0 := n7_; clear n0_ n1_ n2_ n3_ n4_ n5_ n6_ n7_; (try clear hb); (try clear hb2); (try clear hk); (try clear hi); have hnb23 := NB129001_0.out; have hnc23 := NB0_129001.out; have hcz24_0 : w22.cell? ⟨gb129001, 0, none⟩ = some (.int .i64 0) := (blk_cell BK129001.out 0).trans rfl; have hcz24_1 : w22.cell? ⟨gb129001, 1, none⟩ = some (.int .i64 0) := (blk_cell BK129001.out 1).trans rfl; have hcz24_2 : w22.cell? ⟨gb129001, 2, none⟩ = some (.int .i64 0) := (blk_cell BK129001.out 2).trans rfl; have hcz24_3 : w22.cell? ⟨gb129001, 3, none⟩ = some (.int .i64 0) := (blk_cell BK129001.out 3).trans rfl; have hfz24_0 := blk_frozen BK129001.out 0; have hfz24_1 := blk_frozen BK129001.out 1; have hfz24_2 := blk_frozen BK129001.out 2; have hfz24_3 := blk_frozen BK129001.out 3))
 refine bodyPost_ret (results_cell_row rfl _ _ gb129001 47 #[.int .i64 t129005, .int .i64 t129010, .int .i64 t129015, .int .i64 t129020] (0, 0) _ rfl (by (with_reducible repeat (first | refine blk_drewN ?_ _ | refine blk_drew ?_ | refine blk_alloc ?_ _)); refine blk_put (cs := #[.int .i64 t129005, .int .i64 t129010, .int .i64 t129015, .int .i64 0]) ?_ 3 _ rfl; (with_reducible repeat (first | refine blk_drewN ?_ _ | refine blk_drew ?_ | refine blk_alloc ?_ _)); refine blk_put (cs := #[.int .i64 t129005, .int .i64 t129010, .int .i64 0, .int .i64 0]) ?_ 2 _ rfl; (with_reducible repeat (first | refine blk_drewN ?_ _ | refine blk_drew ?_ | refine blk_alloc ?_ _)); refine blk_put (cs := #[.int .i64 t129005, .int .i64 0, .int .i64 0, .int .i64 0]) ?_ 1 _ rfl; (with_reducible repeat (first | refine blk_drewN ?_ _ | refine blk_drew ?_ | refine blk_alloc ?_ _)); refine blk_put (cs := #[.int .i64 0, .int .i64 0, .int .i64 0, .int .i64 0]) ?_ 0 _ rfl; (with_reducible repeat (first | refine blk_drewN ?_ _ | refine blk_drew ?_ | refine blk_alloc ?_ _)); exact BK129001.out) Try.underlying47 rfl (by kernel_rfl)) rfl ?_
 exact ⟨by first | rfl | (simp [errW_none, errW_some] <;> rfl) | (simp [*, errW_none, errW_some] <;> rfl), by repeat (first | (with_reducible first | exact HI0.out | apply IsS144.alloc | apply IsS144.drewN | apply IsS144.drew | apply IsS144.set_1 | refine IsS144.far ?_ NB0_129001.out _) | exact HI0.out), by repeat (first | (with_reducible first | exact HB.out | apply below_alloc | apply pw_below_drewN | apply below_drew1 | refine below_set ?_ (IsS144.ge HI0.out) | refine below_set ?_ GE129001.out) | exact HB.out), by repeat (first | (with_reducible first | exact HK.out | apply KeepBut.set_ | apply keep_drewN | apply keep_drew | apply keep_alloc | refine keep_far ?_ GW129001.out _) | exact HK.out)⟩

end Go.Proofs.Ytnofkbbcbpjhfaa.Q

/- Plain words: numbers that do not wrap, elements of lists, rounds that are enough. -/
namespace Go.Proofs.Ytnofkbbcbpjhfaa.Pure
open Go.RowKit Go.Proofs.Ytnofkbbcbpjhfaa.Q Go.Proofs.YtnofkbbcbpjhfaaW.PrintWords Go.Proofs.YtnofkbbcbpjhfaaW.PrintLast Go.Proofs.YtnofkbbcbpjhfaaW.PrintMore
set_option linter.unusedVariables false
set_option linter.unusedSimpArgs false

theorem w64 {x : Int} (h1 : -9223372036854775808 ≤ x) (h2 : x ≤ 9223372036854775807) : wrap64 x = x := by unfold wrap64; omega
theorem w64n (n : Nat) (h : n < 9223372036854775807) : wrap64 ((n : Int) + 1) = ((n + 1 : Nat) : Int) := by unfold wrap64; omega
theorem rd_nat (l : List Int) (i : Nat) (h : i < l.length) : rd l (i : Int) = l[i] := by simp [rd, h]
theorem tdiv_nn (a b : Int) (h : 0 ≤ a) : Int.tdiv a b = a / b := Int.tdiv_eq_ediv_of_nonneg h
theorem tmod_nn (a b : Int) (h : 0 ≤ a) : Int.tmod a b = a % b := Int.tmod_eq_emod_of_nonneg h
theorem ev_of {α : Type} {g : Nat → Option α} {r : α} (K : Nat) (h : ∀ k, K < k → g k = some r) : Ev g r := ⟨K + 1, fun k hk => h k (by omega)⟩
theorem ev_const {α : Type} {o : Option α} {r : α} (h : o = some r) : Ev (fun _ => o) r := ⟨0, fun _ _ => h⟩
theorem ev_bind {α β : Type} {g : Nat → Option α} {f : Nat → α → Option β} {a : α} {r : β} (h : Ev g a) (k : Ev (fun n => f n a) r) : Ev (fun n => (g n).bind (f n)) r := Ev.bind h k
theorem ev_now {α β : Type} {o : Option α} {f : Nat → α → Option β} {a : α} {r : β} (h : o = some a) (k : Ev (fun n => f n a) r) : Ev (fun n => o.bind (f n)) r := Ev.bind (ev_const h) k
theorem ev_pos {α : Type} {c : Prop} [Decidable c] {f g : Nat → Option α} {r : α} (h : c) (k : Ev f r) : Ev (fun n => if c then f n else g n) r := by
 simpa [h] using k
theorem ev_neg {α : Type} {c : Prop} [Decidable c] {f g : Nat → Option α} {r : α} (h : ¬ c) (k : Ev g r) : Ev (fun n => if c then f n else g n) r := by
 simpa [h] using k
theorem mn_def (a b : Int) : mn a b = min a b := by unfold mn; omega
theorem mx_def (a b : Int) : mx a b = max a b := by unfold mx; omega
theorem loop_up {σ ρ : Type} (K n : Nat) (L : Nat → Nat → σ → Option ρ) (Inv : Nat → σ → Prop) (F : Nat → σ → ρ)
  (step : ∀ i s k, i < n → Inv i s → K ≤ k → (L (k + 1) i s = some (F i s)) ∨ ∃ s', L (k + 1) i s = L k (i + 1) s' ∧ Inv (i + 1) s' ∧ F (i + 1) s' = F i s)
  (last : ∀ s k, Inv n s → K ≤ k → L (k + 1) n s = some (F n s)) :
  ∀ d i s k, i + d = n → Inv i s → K + d < k → L k i s = some (F i s) := by
 intro d
 induction d with
 | zero =>
  intro i s k hi hinv hk
  obtain ⟨k, rfl⟩ : ∃ m, k = m + 1 := ⟨k - 1, by omega⟩
  have : i = n := by omega
  subst this
  exact last s k hinv (by omega)
 | succ d ih =>
  intro i s k hi hinv hk
  obtain ⟨k, rfl⟩ : ∃ m, k = m + 1 := ⟨k - 1, by omega⟩
  rcases step i s k (by omega) hinv (by omega) with h | ⟨s', h, hi', hF⟩
  ·exact h
  ·rw [h, ih (i + 1) s' k (by omega) hi' (by omega), hF]
theorem ev_up {σ ρ : Type} (n : Nat) (L : Nat → Nat → σ → Option ρ) (Inv : Nat → σ → Prop) (F : Nat → σ → ρ)
  (step : ∀ i s, i < n → Inv i s → Ev (fun k => L k i s) (F i s) ∨ ∃ s', (∀ k, L (k + 1) i s = L k (i + 1) s') ∧ Inv (i + 1) s' ∧ F (i + 1) s' = F i s)
  (last : ∀ s, Inv n s → Ev (fun k => L k n s) (F n s)) :
  ∀ d i s, i + d = n → Inv i s → Ev (fun k => L k i s) (F i s) := by
 intro d
 induction d with
 | zero =>
  intro i s hi hinv
  have : i = n := by omega
  subst this
  exact last s hinv
 | succ d ih =>
  intro i s hi hinv
  rcases step i s (by omega) hinv with h | ⟨s', h, hi', hF⟩
  ·exact h
  ·rw [← hF]
   exact Ev.step h (ih (i + 1) s' (by omega) hi')
theorem ev_up2 {σ ρ : Type} (n : Nat) (L : Nat → Nat → σ → Option ρ) (Inv : Nat → σ → Prop) (F : Nat → σ → ρ)
  (step : ∀ i s, i < n → Inv i s → Ev (fun k => L k i s) (F i s) ∨ ∃ s', (∀ r, Ev (fun k => L k (i + 1) s') r → Ev (fun k => L k i s) r) ∧ Inv (i + 1) s' ∧ F (i + 1) s' = F i s)
  (last : ∀ s, Inv n s → Ev (fun k => L k n s) (F n s)) :
  ∀ d i s, i + d = n → Inv i s → Ev (fun k => L k i s) (F i s) := by
 intro d
 induction d with
 | zero =>
  intro i s hi hinv
  have : i = n := by omega
  subst this
  exact last s hinv
 | succ d ih =>
  intro i s hi hinv
  rcases step i s (by omega) hinv with h | ⟨s', h, hi', hF⟩
  ·exact h
  ·rw [← hF]
   exact h _ (ih (i + 1) s' (by omega) hi')
theorem ev_val {α : Type} {g : Nat → Option α} {r r' : α} (h : Ev g r) (e : r = r') : Ev g r' := e ▸ h
theorem take_set {α : Type} (s : List α) (i : Nat) (c : α) (h : i < s.length) : (s.set i c).take (i + 1) = s.take i ++ [c] := by
 rw [List.take_succ_eq_append_getElem (by simpa using h), List.take_set_of_le (Nat.le_refl i)]
 simp

/- Images: valid ones, as the program and the reference have it; copies of lists of numbers. -/

def byteI (n : Int) : Bool := decide (0 ≤ n) && decide (n ≤ 255)
def shapeI (w h p : Int) : Bool := decide (1 ≤ w ∧ w ≤ 16 ∧ 1 ≤ h ∧ h ≤ 16 ∧ 1 ≤ p ∧ p ≤ 4)
theorem shapeI_iff (w h p : Int) : shapeI w h p = true ↔ 1 ≤ w ∧ w ≤ 16 ∧ 1 ≤ h ∧ h ≤ 16 ∧ 1 ≤ p ∧ p ≤ 4 := by simp [shapeI]
def validI (w h p : Int) (d : List Int) : Bool := shapeI w h p && (decide ((d.length : Int) = w * h * p) && d.all byteI)
theorem validI_iff (w h p : Int) (d : List Int) : validI w h p d = true ↔ (1 ≤ w ∧ w ≤ 16 ∧ 1 ≤ h ∧ h ≤ 16 ∧ 1 ≤ p ∧ p ≤ 4) ∧ (d.length : Int) = w * h * p ∧ ∀ n ∈ d, 0 ≤ n ∧ n ≤ 255 := by
 simp [validI, shapeI_iff, byteI, and_assoc]
theorem shape_prod {w h p : Int} (hs : 1 ≤ w ∧ w ≤ 16 ∧ 1 ≤ h ∧ h ≤ 16 ∧ 1 ≤ p ∧ p ≤ 4) : 0 ≤ w * h ∧ w * h ≤ 256 ∧ 0 ≤ w * h * p ∧ w * h * p ≤ 1024 := by
 have h1 : 0 ≤ w * h := Int.mul_nonneg (by omega) (by omega)
 have h2 : w * h ≤ 16 * 16 := Int.mul_le_mul (by omega) (by omega) (by omega) (by omega)
 have h3 : 0 ≤ w * h * p := Int.mul_nonneg h1 (by omega)
 have h4 : w * h * p ≤ 256 * 4 := Int.mul_le_mul (by omega) (by omega) (by omega) (by omega)
 omega
theorem shape_wrap {w h p : Int} (hs : 1 ≤ w ∧ w ≤ 16 ∧ 1 ≤ h ∧ h ≤ 16 ∧ 1 ≤ p ∧ p ≤ 4) : wrap64 (wrap64 (w * h) * p) = w * h * p := by
 have := shape_prod hs
 rw [w64 (x := w * h) (by omega) (by omega), w64 (by omega) (by omega)]
theorem impl_isSide_eq (a : Int) : impl_isSide.f a = some (decide (1 ≤ a ∧ a ≤ 16)) := by
 unfold impl_isSide.f
 by_cases c : a ≥ 1
 ·rw [if_pos c]; congr 1; rw [decide_eq_decide]; omega
 ·rw [if_neg c, decide_eq_false (by omega)]
theorem impl_isShape_eq (w h p : Int) : impl_isShape.f w h p = some (shapeI w h p) := by
 unfold impl_isShape.f shapeI
 rw [impl_isSide_eq, impl_isSide_eq]
 simp only [Option.bind_some]
 by_cases c1 : 1 ≤ w ∧ w ≤ 16
 ·rw [if_pos (by simpa using c1)]
  by_cases c2 : 1 ≤ h ∧ h ≤ 16
  ·rw [if_pos (by simpa using c2)]
   by_cases c3 : p ≥ 1
   ·rw [if_pos c3]; congr 1; rw [decide_eq_decide]; omega
   ·rw [if_neg c3, decide_eq_false (by omega)]
  ·rw [if_neg (by simpa using c2), decide_eq_false (by omega)]
 ·rw [if_neg (by simpa using c1), decide_eq_false (by omega)]
theorem areBytesI_eq (l : List Int) : impl_areBytes.f l = some (l.all byteI) := by
 unfold impl_areBytes.f
 congr 1
 rw [List.not_any_eq_all_not]
 congr 1
 funext n
 unfold notByte byteI
 rw [Bool.eq_iff_iff]
 simp
theorem impl_isImage_eq (w h p : Int) (d : List Int) : impl_isImage.f w h p d = some (validI w h p d) := by
 unfold impl_isImage.f validI
 rw [impl_isShape_eq, areBytesI_eq]
 simp only [Option.bind_some]
 by_cases c : shapeI w h p = true
 ·rw [if_pos c, shape_wrap ((shapeI_iff w h p).1 c), c]
  by_cases e : (d.length : Int) = w * h * p
  ·rw [if_pos e, decide_eq_true e]; rfl
  ·rw [if_neg e, decide_eq_false e]; rfl
 ·rw [if_neg c, Bool.eq_false_iff.2 c]; rfl
theorem spec_inRangeI_eq (n a b : Int) : spec_inRange.f n a b = some (decide (a ≤ n) && decide (n ≤ b)) := by
 unfold spec_inRange.f
 by_cases c : a ≤ n
 ·rw [if_pos c, decide_eq_true c, Bool.true_and]
 ·rw [if_neg c, decide_eq_false c, Bool.false_and]
theorem spec_validShape_eq (w h p : Int) : spec_validShape.f w h p = some (shapeI w h p) := by
 unfold spec_validShape.f shapeI
 rw [spec_inRangeI_eq, spec_inRangeI_eq, spec_inRangeI_eq]
 simp only [Option.bind_some]
 by_cases c1 : 1 ≤ w ∧ w ≤ 16
 ·rw [if_pos (by simpa using c1)]
  by_cases c2 : 1 ≤ h ∧ h ≤ 16
  ·rw [if_pos (by simpa using c2)]; congr 1; rw [Bool.eq_iff_iff]; simp; omega
  ·rw [if_neg (by simpa using c2), decide_eq_false (by omega)]
 ·rw [if_neg (by simpa using c1), decide_eq_false (by omega)]
theorem spec_allInI_ev (l : List Int) (hl : l.length ≤ 1000000000000) : Ev (fun k => spec_allIn.f k l 0 255) (l.all byteI) := by
 have key := ev_up l.length (fun k i (_ : Unit) => spec_allIn.l0 k l 0 255 (i : Int)) (fun _ _ => True) (fun i _ => (l.drop i).all byteI)
  (by
   intro i s hi _
   have hd : (l.drop i).all byteI = (byteI l[i] && (l.drop (i + 1)).all byteI) := by rw [List.drop_eq_getElem_cons hi, List.all_cons]
   cases hb : byteI l[i] with
   | true =>
    right
    refine ⟨(), fun k => ?_, trivial, by rw [hd, hb, Bool.true_and]⟩
    simp only [spec_allIn.l0]
    rw [if_pos (by omega), if_pos (by omega), rd_nat l i hi, spec_inRangeI_eq]
    simp only [Option.bind_some]
    rw [if_pos (show (decide (0 ≤ l[i]) && decide (l[i] ≤ 255)) = true from hb), w64n i (by omega)]
   | false =>
    left
    rw [hd, hb, Bool.false_and]
    refine Ev.step (f := fun _ => some false) (fun k => ?_) (Ev.now false)
    simp only [spec_allIn.l0]
    rw [if_pos (by omega), if_pos (by omega), rd_nat l i hi, spec_inRangeI_eq]
    simp only [Option.bind_some]
    rw [if_neg (Bool.eq_false_iff.1 (show (decide (0 ≤ l[i]) && decide (l[i] ≤ 255)) = false from hb))])
  (by
   intro s _
   rw [List.drop_length]
   refine Ev.step (f := fun _ => some true) (fun k => ?_) (Ev.now true)
   simp only [spec_allIn.l0]
   rw [if_neg (by omega)])
  l.length 0 () (by omega) trivial
 unfold spec_allIn.f
 simpa using key
theorem spec_validImage_ev (w h p : Int) (d : List Int) (hl : d.length ≤ 1000000000000) : Ev (fun k => spec_validImage.f k w h p d) (validI w h p d) := by
 unfold spec_validImage.f validI
 refine ev_now (spec_validShape_eq w h p) ?_
 by_cases c : shapeI w h p = true
 ·refine ev_pos c ?_
  rw [shape_wrap ((shapeI_iff w h p).1 c), c, Bool.true_and]
  by_cases e : (d.length : Int) = w * h * p
  ·refine ev_pos e ?_
   rw [decide_eq_true e, Bool.true_and]
   exact ev_bind (spec_allInI_ev d hl) (Ev.now _)
  ·refine ev_neg e ?_
   rw [decide_eq_false e]
   exact Ev.now _
 ·refine ev_neg c ?_
  rw [Bool.eq_false_iff.2 c]
  exact Ev.now _

/- Runs: what the program and the reference take for a region. -/

abbrev Run := S118
theorem rdRun (l : List Run) (i : Nat) (h : i < l.length) : rd_T118 l (i : Int) = l[i] := by simp [rd_T118, h]
def runOK (r : Run) : Bool := decide (0 ≤ r.f0) && decide (r.f0 < 16) && decide (0 ≤ r.f1) && decide (r.f1 < r.f2) && decide (r.f2 ≤ 16)
theorem runOK_iff (r : Run) : runOK r = true ↔ 0 ≤ r.f0 ∧ r.f0 < 16 ∧ 0 ≤ r.f1 ∧ r.f1 < r.f2 ∧ r.f2 ≤ 16 := by
 simp [runOK, and_assoc]
def runAfter (p r : Run) : Bool := decide (p.f0 < r.f0) || (decide (p.f0 = r.f0) && decide (p.f2 < r.f1))
theorem runAfter_iff (p r : Run) : runAfter p r = true ↔ p.f0 < r.f0 ∨ (p.f0 = r.f0 ∧ p.f2 < r.f1) := by
 simp [runAfter]
def validFrom : Option Run → List Run → Bool
 | _, [] => true
 | none, r :: rs => runOK r && validFrom (some r) rs
 | some p, r :: rs => (runOK r && runAfter p r) && validFrom (some r) rs
def validR (l : List Run) : Bool := validFrom none l
def before (l : List Run) (i : Nat) : Option Run := if i = 0 then none else l[i - 1]?
theorem validFrom_ok (l : List Run) : ∀ p, validFrom p l = true → ∀ r ∈ l, runOK r = true := by
 induction l with
 | nil => intro p _ r hr; cases hr
 | cons x xs ih =>
  intro p h r hr
  have h2 : runOK x = true ∧ validFrom (some x) xs = true := by
   cases p with
   | none => simpa [validFrom] using h
   | some p => simp [validFrom] at h; exact ⟨h.1.1, h.2⟩
  rcases List.mem_cons.1 hr with rfl | hr
  ·exact h2.1
  ·exact ih _ h2.2 r hr
theorem valid_ok {l : List Run} (h : validR l = true) : ∀ r ∈ l, runOK r = true := validFrom_ok l none h
theorem valid_ranges {l : List Run} (h : validR l = true) : ∀ r ∈ l, 0 ≤ r.f0 ∧ r.f0 < 16 ∧ 0 ≤ r.f1 ∧ r.f2 ≤ 16 := by
 intro r hr
 have := (runOK_iff r).1 (valid_ok h r hr)
 omega

/- Grids and their runs, as the reference has them: lists of 256 bools. -/

def tab (g : Nat → Bool) : List Bool := (List.range 256).map g
theorem tab_length (g : Nat → Bool) : (tab g).length = 256 := by simp [tab]
theorem tab_get (g : Nat → Bool) (i : Nat) (h : i < 256) : rdOf false (tab g) (i : Int) = g i := by
 simp [rdOf, tab, List.getD_eq_getElem?_getD, h]
theorem tab_set (g : Nat → Bool) (i : Nat) (b : Bool) : (tab g).set i b = tab (fun p => if p = i then b else g p) := by
 apply List.ext_getElem
 ·simp [tab]
 ·intro j h1 h2
  rw [List.getElem_set]
  simp only [tab, List.getElem_map, List.getElem_range]
  by_cases e : i = j
  ·rw [if_pos e, if_pos e.symm]
  ·rw [if_neg e, if_neg (fun h => e h.symm)]
theorem tab_congr {g g' : Nat → Bool} (h : ∀ p, p < 256 → g p = g' p) : tab g = tab g' := by
 unfold tab
 apply List.map_congr_left
 intro p hp
 exact h p (by simpa using hp)
theorem tab_false : List.replicate 256 false = tab (fun _ => false) := by
 refine List.ext_getElem (by rw [List.length_replicate, tab_length]) (fun j h1 h2 => ?_)
 rw [List.getElem_replicate]
 simp only [tab, List.getElem_map]
theorem endAt_congr {g g' : Nat → Bool} (h : ∀ p, p < 256 → g p = g' p) (y : Nat) (hy : y < 16) : ∀ n x, endAt g y n x = endAt g' y n x := by
 intro n
 induction n with
 | zero => intro x; rfl
 | succ n ih =>
  intro x
  unfold endAt
  by_cases hx : x < 16
  ·rw [h (y * 16 + x) (by omega), ih (x + 1)]
  ·rw [if_neg (fun c => hx c.1), if_neg (fun c => hx c.1)]
theorem scan_congr {g g' : Nat → Bool} (h : ∀ p, p < 256 → g p = g' p) (y : Nat) (hy : y < 16) : ∀ d x, 17 ≤ x + d → scanRow g y x = scanRow g' y x := by
 intro d
 induction d with
 | zero => intro x hx; rw [scan_end g y x (by omega), scan_end g' y x (by omega)]
 | succ d ih =>
  intro x hx
  by_cases h16 : x < 16
  ·cases hv : g (y * 16 + x) with
   | true =>
    have hv' : g' (y * 16 + x) = true := by rw [← h _ (by omega)]; exact hv
    have := endAt_ge g y (16 - x) x
    rw [scan_true g y x h16 hv, scan_true g' y x h16 hv', endAt_congr h y hy, ih _ (by rw [← endAt_congr h y hy]; omega)]
   | false =>
    have hv' : g' (y * 16 + x) = false := by rw [← h _ (by omega)]; exact hv
    rw [scan_false g y x h16 hv, scan_false g' y x h16 hv', ih _ (by omega)]
  ·rw [scan_end g y x (by omega), scan_end g' y x (by omega)]
theorem runsL_congr {g g' : Nat → Bool} (h : ∀ p, p < 256 → g p = g' p) : runsL g = runsL g' := by
 unfold runsL runsTo
 rw [List.flatMap_def, List.flatMap_def]
 congr 1
 apply List.map_congr_left
 intro y hy
 exact scan_congr h y (by simpa using hy) 17 0 (by omega)
/-! the reference's grid -/
theorem spec_gridOf_ev (l : List Run) (hl : l.length ≤ 1000000000) (hok : ∀ r ∈ l, 0 ≤ r.f0 ∧ r.f0 < 16 ∧ 0 ≤ r.f1 ∧ r.f2 ≤ 16) : Ev (fun k => spec_gridOf.f k l) (tab (gridF l)) := by
 have key := ev_up2 l.length (fun k i (s : List Bool) => spec_gridOf.l0 k l s (i : Int)) (fun i s => s = tab (gridF (l.take i))) (fun _ _ => tab (gridF l))
  (by
   intro i s hi hs
   right
   have ho := hok l[i] (List.getElem_mem hi)
   refine ⟨tab (gridF (l.take (i + 1))), fun r hr => ?_, rfl, rfl⟩
   have inner : ∀ d x : Nat, l[i].f1 ≤ (x : Int) → ((x : Int) + d = l[i].f2 ∨ (d = 0 ∧ l[i].f2 ≤ x ∧ (x : Int) = l[i].f1)) →
     Ev (fun k => spec_gridOf.l1 k l (tab (fun p => gridF (l.take i) p || runTo l[i] x p)) (i : Int) (x : Int)) r := by
    intro d
    induction d with
    | zero =>
     intro x hx hd
     have he : tab (fun p => gridF (l.take i) p || runTo l[i] x p) = tab (gridF (l.take (i + 1))) := by
      apply tab_congr
      intro p _
      rw [gridF_succ l i hi]
      congr 1
      unfold runTo runIn
      by_cases c : l[i].f1 ≤ ((p % 16 : Nat) : Int)
      ·congr 1
       rw [decide_eq_decide]
       omega
      ·rw [decide_eq_false c, Bool.and_false, Bool.false_and, Bool.false_and]
     refine Ev.step (fun k => ?_) hr
     simp only [spec_gridOf.l1]
     rw [if_pos (by omega), if_pos (by omega), rdRun l i hi, if_neg (by omega), w64n i (by omega), he]
    | succ d ih =>
     intro x hx hd
     have hx16 : x < 16 := by omega
     obtain ⟨Y, hY⟩ := Int.eq_ofNat_of_zero_le ho.1
     have hs' : (tab (fun p => gridF (l.take i) p || runTo l[i] x p)).set (Y * 16 + x) true = tab (fun p => gridF (l.take i) p || runTo l[i] (x + 1) p) := by
      rw [tab_set]
      exact tab_congr (fun p _ => runTo_step l[i] Y x hY hx16 hx _ p)
     have hn := ih (x + 1) (by omega) (by omega)
     refine Ev.step (fun k => ?_) hn
     simp only [spec_gridOf.l1]
     have e1 : wrap64 (wrap64 (l[i].f0 * 16) + (x : Int)) = ((Y * 16 + x : Nat) : Int) := by
      rw [hY, w64 (x := (Y : Int) * 16) (by omega) (by omega), w64 (x := (Y : Int) * 16 + (x : Int)) (by omega) (by omega)]; omega
     rw [if_pos (by omega), if_pos (by omega), rdRun l i hi, if_pos (by omega), e1, if_pos (by omega), tab_length, if_pos (by omega), Int.toNat_natCast, hs', w64n x (by omega)]
   obtain ⟨F, hF⟩ := Int.eq_ofNat_of_zero_le ho.2.2.1
   have h0 : Ev (fun k => spec_gridOf.l1 k l (tab (fun p => gridF (l.take i) p || runTo l[i] F p)) (i : Int) (F : Int)) r := by
    by_cases c : l[i].f1 ≤ l[i].f2
    ·exact inner (l[i].f2 - l[i].f1).toNat F (by omega) (.inl (by omega))
    ·exact inner 0 F (by omega) (.inr ⟨rfl, by omega, by omega⟩)
   have he : tab (fun p => gridF (l.take i) p || runTo l[i] F p) = s := by
    rw [hs]
    apply tab_congr
    intro p _
    have : runTo l[i] F p = false := by
     unfold runTo
     rw [hF]
     by_cases c : ((F : Nat) : Int) ≤ ((p % 16 : Nat) : Int)
     ·rw [decide_eq_false (show ¬ p % 16 < F by omega), Bool.and_false]
     ·rw [decide_eq_false c, Bool.and_false, Bool.false_and]
    rw [this, Bool.or_false]
   rw [he] at h0
   refine Ev.step (fun k => ?_) h0
   simp only [spec_gridOf.l0]
   rw [if_pos (by omega), if_pos (by omega), rdRun l i hi, hF])
  (by
   intro s hs
   refine Ev.step (f := fun _ => some s) (fun k => ?_) (ev_val (Ev.now s) (by rw [hs, List.take_length]))
   simp only [spec_gridOf.l0]
   rw [if_neg (by omega)])
  l.length 0 (tab (gridF (l.take 0))) (by omega) rfl
 unfold spec_gridOf.f
 refine Ev.congr (fun k => ?_) key
 rw [if_pos (by omega), tab_false]
 rfl
/-! the reference's runs -/
def rowRest (g : Nat → Bool) (y x : Nat) (from_ : Int) : List Run :=
 if from_ < 0 then scanRow g y x else ⟨(y : Int), from_, (endAt g y (16 - x) x : Nat)⟩ :: scanRow g y (endAt g y (16 - x) x + 1)
theorem spec_runsOf_ev (g : Nat → Bool) : Ev (fun k => spec_runsOf.f k (tab g)) (runsL g) := by
 have key := ev_up2 16 (fun k y (s : List Run) => spec_runsOf.l0 k (tab g) s (y : Int)) (fun y s => s = runsTo g y ∧ s.length ≤ 17 * y) (fun _ _ => runsL g)
  (by
   intro y s hy hs
   right
   have inner : ∀ r, (∀ acc : List Run, acc = runsTo g (y + 1) → acc.length ≤ 17 * (y + 1) → Ev (fun k => spec_runsOf.l0 k (tab g) acc ((y + 1 : Nat) : Int)) r) →
     Ev (fun k => spec_runsOf.l1 k (tab g) s (y : Int) (-1) 0) r := by
    intro r hnext
    have h := ev_up2 17 (fun k x (q : List Run × Int) => spec_runsOf.l1 k (tab g) q.1 (y : Int) q.2 (x : Int))
     (fun x q => q.1 ++ rowRest g y x q.2 = runsTo g (y + 1) ∧ q.1.length ≤ 17 * y + x ∧ (q.2 = -1 ∨ (0 ≤ q.2 ∧ q.2 < x ∧ x ≤ 16))) (fun _ _ => r)
     (by
      intro x q hx hq
      obtain ⟨acc, fr⟩ := q
      obtain ⟨h1, h2, h3⟩ := hq
      simp only at h1 h2 h3
      right
      have j3 : ∀ (b : Bool), (x < 16 → b = g (y * 16 + x)) → (x = 16 → b = false) → ∃ s' : List Run × Int,
        (∀ r, Ev (fun k => spec_runsOf.l1 k (tab g) s'.1 (y : Int) s'.2 ((x + 1 : Nat) : Int)) r → Ev (fun k => spec_runsOf.j2 k (tab g) acc (y : Int) fr (x : Int) b) r) ∧
        (s'.1 ++ rowRest g y (x + 1) s'.2 = runsTo g (y + 1) ∧ s'.1.length ≤ 17 * y + (x + 1) ∧ (s'.2 = -1 ∨ (0 ≤ s'.2 ∧ s'.2 < ((x + 1 : Nat) : Int) ∧ x + 1 ≤ 16))) := by
       intro b hb hb16
       rcases h3 with h3 | h3
       ·subst h3
        cases b with
        | true =>
         have hx16 : x < 16 := by
          by_cases c : x = 16
          ·have := hb16 c; cases this
          ·omega
         refine ⟨(acc, (x : Int)), fun r hr => ?_, ?_, by simp only; omega, .inr (by simp only; omega)⟩
         ·refine Ev.step (f := fun k => spec_runsOf.j3 k (tab g) acc (y : Int) (-1) (x : Int) true true) (fun k => ?_) (Ev.step (fun k => ?_) hr)
          ·simp only [spec_runsOf.j2]; simp
          ·simp only [spec_runsOf.j3]
           rw [if_pos trivial, if_pos trivial, w64n x (by omega)]
         ·have hv := (hb hx16).symm
          rw [← h1]
          show acc ++ rowRest g y (x + 1) (x : Int) = acc ++ rowRest g y x (-1)
          unfold rowRest
          rw [if_neg (by omega), if_pos (by omega), scan_true g y x hx16 hv, endAt_step g y x hx16 hv]
        | false =>
         refine ⟨(acc, -1), fun r hr => ?_, ?_, by simp only; omega, .inl rfl⟩
         ·refine Ev.step (f := fun k => spec_runsOf.j3 k (tab g) acc (y : Int) (-1) (x : Int) false false) (fun k => ?_) (Ev.step (fun k => ?_) hr)
          ·simp only [spec_runsOf.j2]; simp
          ·simp only [spec_runsOf.j3]
           rw [if_neg (by simp), if_neg (by simp), if_neg (by omega), w64n x (by omega)]
         ·rw [← h1]
          show acc ++ rowRest g y (x + 1) (-1) = acc ++ rowRest g y x (-1)
          unfold rowRest
          rw [if_pos (by omega), if_pos (by omega)]
          by_cases c : x < 16
          ·rw [scan_false g y x c (hb c).symm]
          ·rw [scan_end g y x (by omega), scan_end g y (x + 1) (by omega)]
       ·cases b with
        | true =>
         have hx16 : x < 16 := by
          by_cases c : x = 16
          ·have := hb16 c; cases this
          ·omega
         refine ⟨(acc, fr), fun r hr => ?_, ?_, by simp only; omega, .inr (by simp only; omega)⟩
         ·refine Ev.step (f := fun k => spec_runsOf.j3 k (tab g) acc (y : Int) fr (x : Int) true false) (fun k => ?_) (Ev.step (fun k => ?_) hr)
          ·simp only [spec_runsOf.j2]
           rw [if_pos trivial, decide_eq_false (show ¬ fr < 0 by omega)]
          ·simp only [spec_runsOf.j3]
           rw [if_neg (by simp), if_pos trivial, w64n x (by omega)]
         ·have hv := (hb hx16).symm
          rw [← h1]
          show acc ++ rowRest g y (x + 1) fr = acc ++ rowRest g y x fr
          unfold rowRest
          rw [if_neg (by omega), if_neg (by omega), endAt_step g y x hx16 hv]
        | false =>
         refine ⟨(acc ++ [⟨(y : Int), fr, (x : Int)⟩], -1), fun r hr => ?_, ?_, by simp; omega, .inl rfl⟩
         ·refine Ev.step (f := fun k => spec_runsOf.j3 k (tab g) acc (y : Int) fr (x : Int) false false) (fun k => ?_) (Ev.step (fun k => ?_) hr)
          ·simp only [spec_runsOf.j2]; simp
          ·simp only [spec_runsOf.j3]
           rw [if_neg (by simp), if_neg (by simp), if_pos (by omega), if_pos (by omega), w64n x (by omega)]
         ·rw [← h1]
          show acc ++ [⟨(y : Int), fr, (x : Int)⟩] ++ rowRest g y (x + 1) (-1) = acc ++ rowRest g y x fr
          unfold rowRest
          have hst : endAt g y (16 - x) x = x := endAt_stop g y x (by
           by_cases c : x < 16
           ·right; exact (hb c).symm
           ·left; omega)
          rw [if_pos (by omega), if_neg (by omega), hst]
          simp
      by_cases hx16 : x < 16
      ·obtain ⟨s', e1, e2⟩ := j3 (g (y * 16 + x)) (fun _ => rfl) (fun c => by omega)
       refine ⟨s', fun r hr => ?_, e2, rfl⟩
       refine Ev.step (fun k => ?_) (e1 r hr)
       simp only [spec_runsOf.l1]
       have e3 : wrap64 (wrap64 ((y : Int) * 16) + (x : Int)) = ((y * 16 + x : Nat) : Int) := by
        rw [w64 (x := (y : Int) * 16) (by omega) (by omega), w64 (x := (y : Int) * 16 + (x : Int)) (by omega) (by omega)]; omega
       rw [if_pos (by omega), if_pos (by omega), e3, if_pos (by omega), tab_length, if_pos (by omega), tab_get g _ (by omega)]
      ·obtain ⟨s', e1, e2⟩ := j3 false (fun c => by omega) (fun _ => rfl)
       refine ⟨s', fun r hr => ?_, e2, rfl⟩
       refine Ev.step (fun k => ?_) (e1 r hr)
       simp only [spec_runsOf.l1]
       rw [if_pos (by omega), if_neg (by omega)])
     (by
      intro q hq
      obtain ⟨acc, fr⟩ := q
      obtain ⟨h1, h2, h3⟩ := hq
      simp only at h1 h2 h3
      have hf : fr = -1 := by omega
      subst hf
      have he : acc = runsTo g (y + 1) := by
       rw [← h1]
       unfold rowRest
       rw [if_pos (by omega), scan_end g y 17 (by omega), List.append_nil]
      refine Ev.step (fun k => ?_) (hnext acc he (by omega))
      simp only [spec_runsOf.l1]
      rw [if_neg (by omega), w64n y (by omega)])
     17 0 (s, -1) (by omega) ⟨by
      unfold rowRest
      rw [if_pos (by omega), hs.1, ← runsTo_succ], by have := hs.2; simp only; omega, .inl rfl⟩
    exact h
   have hlen : (runsTo g (y + 1)).length ≤ 17 * (y + 1) := by
    rw [runsTo_succ, List.length_append]
    have hsc : ∀ d x, 17 ≤ x + d → (scanRow g y x).length ≤ 17 - x := by
     intro d
     induction d with
     | zero => intro x hx; rw [scan_end g y x (by omega)]; simp
     | succ d ih =>
      intro x hx
      by_cases h16 : x < 16
      ·cases hv : g (y * 16 + x) with
       | true =>
        have := endAt_ge g y (16 - x) x
        rw [scan_true g y x h16 hv, List.length_cons]
        have := ih (endAt g y (16 - x) x + 1) (by omega)
        omega
       | false =>
        rw [scan_false g y x h16 hv]
        have := ih (x + 1) (by omega)
        omega
      ·rw [scan_end g y x (by omega)]; simp
    have h1 := hsc 17 0 (by omega)
    have h2 := hs.2
    rw [hs.1] at h2
    omega
   refine ⟨runsTo g (y + 1), fun r hr => ?_, ⟨rfl, hlen⟩, rfl⟩
   refine Ev.step (fun k => ?_) (inner r (fun acc ha _ => by rw [ha]; exact hr))
   simp only [spec_runsOf.l0]
   rw [if_pos (by omega)])
  (by
   intro s hs
   refine Ev.step (f := fun _ => some s) (fun k => ?_) (ev_val (Ev.now s) hs.1)
   simp only [spec_runsOf.l0]
   rw [if_neg (by omega)])
  16 0 [] (by omega) ⟨by simp [runsTo], by simp⟩
 exact key

/- Neighbours of a grid's pixels, by their numbers; a loop that fills a grid. -/

theorem gso_at (so : Nat → Nat → Bool) (p : Nat) (h : p < 256) : gso so 256 p = so (p % 16) (p / 16) := by
 unfold gso; rw [decide_eq_true h, Bool.true_and]
def rdT (g : Nat → Bool) (i : Int) : Bool := rdOf false (tab g) i
theorem rdT_nat (g : Nat → Bool) (i : Nat) (h : i < 256) : rdT g (i : Int) = g i := tab_get g i h
theorem hasP_no (g : Nat → Bool) (x y : Int) (h : x < 0 ∨ 16 ≤ x ∨ y < 0 ∨ 16 ≤ y) : hasP g x y = false := by
 rw [← Bool.not_eq_true, hasP_iff]; omega
theorem fill_ev {ρ : Type} (f : Nat → Bool) (init : Nat → Bool) (L : Nat → List Bool → Nat → Option ρ) (r : ρ)
  (step : ∀ k s p, p < 256 → s = tab (fun q => if q < p then f q else init q) → L (k + 1) s p = L k (s.set p (f p)) (p + 1))
  (last : Ev (fun k => L k (tab f) 256) r) : Ev (fun k => L k (tab init) 0) r := by
 have key := ev_up 256 (fun k p s => L k s p) (fun p s => s = tab (fun q => if q < p then f q else init q)) (fun _ _ => r)
  (by
   intro p s hp hs
   right
   refine ⟨s.set p (f p), fun k => step k s p hp hs, ?_, rfl⟩
   rw [hs, tab_set]
   apply tab_congr
   intro q _
   by_cases e : q = p
   ·subst e; rw [if_pos rfl, if_pos (by omega)]
   ·rw [if_neg e]
    by_cases h1 : q < p
    ·rw [if_pos h1, if_pos (by omega)]
    ·rw [if_neg h1, if_neg (by omega)])
  (by
   intro s hs
   have : s = tab f := by rw [hs]; exact tab_congr (fun q hq => by rw [if_pos hq])
   rw [this]; exact last)
  256 0 (tab init) (by omega) (tab_congr (fun q _ => by rw [if_neg (by omega)]))
 exact key

/- Two images of the same shape. -/

def sameV (w h p : Int) (d : List Int) (w' h' p' : Int) (d' : List Int) : Bool := validI w h p d && (validI w' h' p' d' && decide (w = w' ∧ h = h' ∧ p = p'))
theorem sameV_iff (w h p : Int) (d : List Int) (w' h' p' : Int) (d' : List Int) : sameV w h p d w' h' p' d' = true ↔ validI w h p d = true ∧ validI w' h' p' d' = true ∧ w = w' ∧ h = h' ∧ p = p' := by
 simp [sameV]
theorem same_len {w h p : Int} {d : List Int} {w' h' p' : Int} {d' : List Int} (hs : sameV w h p d w' h' p' d' = true) : d.length = d'.length ∧ d.length ≤ 1024 := by
 obtain ⟨h1, h2, rfl, rfl, rfl⟩ := (sameV_iff _ _ _ _ _ _ _ _).1 hs
 have a := (validI_iff _ _ _ _).1 h1
 have b := (validI_iff _ _ _ _).1 h2
 have := shape_prod a.1
 omega
theorem alikeB (w h p w' h' p' : Int) : (if w = w' then (if h = h' then (some (p == p')) else (some false)) else (some false)) = some (decide (w = w' ∧ h = h' ∧ p = p')) := by
 by_cases c1 : w = w'
 ·rw [if_pos c1]
  by_cases c2 : h = h'
  ·rw [if_pos c2]
   by_cases c3 : p = p'
   ·rw [decide_eq_true (show w = w' ∧ h = h' ∧ p = p' from ⟨c1, c2, c3⟩), beq_iff_eq.2 c3]
   ·rw [decide_eq_false (by simp [c3]), beq_eq_false_iff_ne.2 c3]
  ·rw [if_neg c2, decide_eq_false (by simp [c2])]
 ·rw [if_neg c1, decide_eq_false (by simp [c1])]
theorem impl_alike_eq (w h p : Int) (d : List Int) (w' h' p' : Int) (d' : List Int) : impl_alikeImages.f w h p d w' h' p' d' = some (decide (w = w' ∧ h = h' ∧ p = p')) := by
 unfold impl_alikeImages.f
 exact alikeB w h p w' h' p'
theorem spec_sameShape_ev (w h p : Int) (d : List Int) (w' h' p' : Int) (d' : List Int) (hl : d.length ≤ 1000000000000) (hl' : d'.length ≤ 1000000000000) : Ev (fun k => spec_sameShape.f k w h p d w' h' p' d') (sameV w h p d w' h' p' d') := by
 unfold spec_sameShape.f sameV
 refine ev_bind (spec_validImage_ev w h p d hl) ?_
 by_cases c : validI w h p d = true
 ·rw [c, Bool.true_and]
  refine ev_pos rfl (ev_bind (spec_validImage_ev w' h' p' d' hl') ?_)
  by_cases c' : validI w' h' p' d' = true
  ·rw [c', Bool.true_and]
   exact ev_pos rfl (ev_const (alikeB w h p w' h' p'))
  ·rw [Bool.eq_false_iff.2 c', Bool.false_and]
   exact ev_neg (by simp) (Ev.now _)
 ·rw [Bool.eq_false_iff.2 c, Bool.false_and]
  exact ev_neg (by simp) (Ev.now _)

/- The region of a box, as the program and the reference have it. -/

theorem scanRow_len (g : Nat → Bool) (y : Nat) : ∀ d x, 17 ≤ x + d → (scanRow g y x).length ≤ 17 - x := by
 intro d
 induction d with
 | zero => intro x hx; rw [scan_end g y x (by omega)]; simp
 | succ d ih =>
  intro x hx
  by_cases h16 : x < 16
  ·cases hv : g (y * 16 + x) with
   | true =>
    have := endAt_ge g y (16 - x) x
    rw [scan_true g y x h16 hv, List.length_cons]
    have := ih (endAt g y (16 - x) x + 1) (by omega)
    omega
   | false =>
    rw [scan_false g y x h16 hv]
    have := ih (x + 1) (by omega)
    omega
  ·rw [scan_end g y x (by omega)]; simp
theorem runsTo_len (g : Nat → Bool) (n : Nat) : (runsTo g n).length ≤ 17 * n := by
 induction n with
 | zero => simp [runsTo]
 | succ n ih =>
  rw [runsTo_succ, List.length_append]
  have := scanRow_len g n 17 0 (by omega)
  omega
theorem runsL_len (g : Nat → Bool) : (runsL g).length ≤ 272 := runsTo_len g 16

/- Areas and bounds of regions, as the program and the reference have them. -/

def leftR (l : List Run) (s : Int) : Int := l.foldl (fun a r => min a r.f1) s
def rightR (l : List Run) (s : Int) : Int := l.foldl (fun a r => max a r.f2) s
theorem left_range (l : List Run) (h : ∀ r ∈ l, runOK r = true) : ∀ s, 0 ≤ s → s ≤ 16 → 0 ≤ leftR l s ∧ leftR l s ≤ 16 := by
 induction l with
 | nil => intro s h0 h1; exact ⟨h0, h1⟩
 | cons x xs ih =>
  intro s h0 h1
  have h2 := (runOK_iff x).1 (h x (by simp))
  exact ih (fun r hr => h r (by simp [hr])) (min s x.f1) (by omega) (by omega)
theorem right_range (l : List Run) (h : ∀ r ∈ l, runOK r = true) : ∀ s, 0 ≤ s → s ≤ 16 → 0 ≤ rightR l s ∧ rightR l s ≤ 16 := by
 induction l with
 | nil => intro s h0 h1; exact ⟨h0, h1⟩
 | cons x xs ih =>
  intro s h0 h1
  have h2 := (runOK_iff x).1 (h x (by simp))
  exact ih (fun r hr => h r (by simp [hr])) (max s x.f2) (by omega) (by omega)
def boundsR (l : List Run) : Int × Int × Int × Int :=
 (leftR l 16, (l.headD z118).f0, rightR l 0 - leftR l 16, (l.getLastD z118).f0 - (l.headD z118).f0 + 1)
theorem last_wrap (l : List Run) (hn : l ≠ []) (hl : l.length ≤ 1000000000) (h : ∀ r ∈ l, runOK r = true) :
  (if 0 < (l.length : Int) then (if 0 ≤ (wrap64 ((l.length : Int) - 1)) then (if (wrap64 ((l.length : Int) - 1)) < (l.length : Int) then (some (leftR l 16, (rd_T118 l 0).f0, wrap64 (rightR l 0 - leftR l 16), wrap64 ((wrap64 (((rd_T118 l (wrap64 ((l.length : Int) - 1))).f0) - ((rd_T118 l 0).f0))) + 1))) else (none)) else (none)) else (none)) = some (boundsR l) := by
 have hp : 0 < l.length := List.length_pos_iff.2 hn
 have h1 := left_range l h 16 (by omega) (by omega)
 have h2 := right_range l h 0 (by omega) (by omega)
 have e0 : rd_T118 l 0 = l[0] := by simpa using rdRun l 0 hp
 have e1 : wrap64 ((l.length : Int) - 1) = ((l.length - 1 : Nat) : Int) := by rw [w64 (by omega) (by omega)]; omega
 have ha := (runOK_iff _).1 (h l[0] (List.getElem_mem hp))
 have hb := (runOK_iff _).1 (h (l[l.length - 1]'(by omega)) (List.getElem_mem (by omega)))
 rw [if_pos (by omega), e1, if_pos (by omega), if_pos (by omega), rdRun l (l.length - 1) (by omega), e0, w64 (x := rightR l 0 - leftR l 16) (by omega) (by omega), w64 (x := (l[l.length - 1]'(by omega)).f0 - l[0].f0) (by omega) (by omega), w64 (by omega) (by omega)]
 unfold boundsR
 have f1 : l.headD z118 = l[0] := by cases l with
  | nil => exact absurd rfl hn
  | cons x xs => rfl
 have f2 : l.getLastD z118 = l[l.length - 1]'(by omega) := by
  rw [← List.getLast_eq_getElem hn, List.getLastD_eq_getLast?, List.getLast?_eq_some_getLast hn]; rfl
 rw [f1, f2]
theorem foldl_drop {α β : Type} (f : β → α → β) (l : List α) (i : Nat) (h : i < l.length) (s : β) : (l.drop i).foldl f s = (l.drop (i + 1)).foldl f (f s l[i]) := by
 rw [List.drop_eq_getElem_cons h]; rfl
theorem spec_boundsOf_eq (l : List Run) (hn : l ≠ []) (hl : l.length ≤ 1000000000) (h : ∀ r ∈ l, runOK r = true) (k : Nat) (hk : l.length < k) : spec_boundsOf.f k l = some (boundsR l) := by
 have hp : 0 < l.length := List.length_pos_iff.2 hn
 have e0 : rd_T118 l 0 = l[0] := by simpa using rdRun l 0 hp
 have ha := (runOK_iff _).1 (h l[0] (List.getElem_mem hp))
 unfold spec_boundsOf.f
 rw [if_pos (by omega), e0]
 have s1 : leftR l l[0].f1 = leftR l 16 := by
  cases l with
  | nil => exact absurd rfl hn
  | cons x xs =>
   simp only [List.getElem_cons_zero] at ha ⊢
   show leftR xs (min x.f1 x.f1) = leftR xs (min 16 x.f1)
   congr 1; omega
 have s2 : rightR l l[0].f2 = rightR l 0 := by
  cases l with
  | nil => exact absurd rfl hn
  | cons x xs =>
   simp only [List.getElem_cons_zero] at ha ⊢
   show rightR xs (max x.f2 x.f2) = rightR xs (max 0 x.f2)
   congr 1; omega
 have hh := loop_up 0 l.length (fun k i (s : Int × Int) => spec_boundsOf.l0 k l s.1 s.2 (i : Int)) (fun i s => leftR (l.drop i) s.1 = leftR l 16 ∧ rightR (l.drop i) s.2 = rightR l 0) (fun _ _ => boundsR l)
  (by
   intro i s k hi hs _
   refine .inr ⟨(mn s.1 l[i].f1, mx s.2 l[i].f2), ?_, ?_, rfl⟩
   ·simp only [spec_boundsOf.l0]
    rw [if_pos (by omega), if_pos (by omega), rdRun l i hi, w64n i (by omega)]
   ·obtain ⟨q1, q2⟩ := hs
    unfold leftR at q1 ⊢
    unfold rightR at q2 ⊢
    rw [foldl_drop _ l i hi] at q1 q2
    rw [mn_def, mx_def]
    exact ⟨q1, q2⟩)
  (by
   intro s k hs _
   rw [List.drop_length] at hs
   simp only [spec_boundsOf.l0]
   rw [if_neg (by omega)]
   have q1 : s.1 = leftR l 16 := hs.1
   have q2 : s.2 = rightR l 0 := hs.2
   rw [q1, q2]
   exact last_wrap l hn hl h)
  l.length 0 (l[0].f1, l[0].f2) k (by omega) ⟨s1, s2⟩ (by omega)
 exact hh

/- The runs of a grid are a region: their grid is the grid, and their area is the number of its pixels. -/

theorem endAt_le (g : Nat → Bool) (y : Nat) : ∀ n x, x ≤ 16 → endAt g y n x ≤ 16 := by
 intro n
 induction n with
 | zero => intro x h; exact h
 | succ n ih =>
  intro x h
  unfold endAt
  split
  ·rename_i c; exact ih (x + 1) (by omega)
  ·exact h
theorem endAt_in (g : Nat → Bool) (y : Nat) : ∀ n x q, x ≤ q → q < endAt g y n x → g (y * 16 + q) = true := by
 intro n
 induction n with
 | zero => intro x q h1 h2; exact absurd h2 (by simp only [endAt]; omega)
 | succ n ih =>
  intro x q h1 h2
  unfold endAt at h2
  split at h2
  ·rename_i c
   by_cases e : q = x
   ·subst e; exact c.2
   ·exact ih (x + 1) q (by omega) h2
  ·omega
theorem endAt_end (g : Nat → Bool) (y : Nat) : ∀ n x, 16 ≤ n + x → x ≤ 16 → endAt g y n x = 16 ∨ g (y * 16 + endAt g y n x) = false := by
 intro n
 induction n with
 | zero => intro x h1 h2; left; simp only [endAt]; omega
 | succ n ih =>
  intro x h1 h2
  unfold endAt
  split
  ·rename_i c; exact ih (x + 1) (by omega) (by omega)
  ·rename_i c
   by_cases hx : x < 16
   ·right
    cases hv : g (y * 16 + x) with
    | true => exact absurd ⟨hx, hv⟩ c
    | false => rfl
   ·left; omega
theorem runIn_row (y p : Nat) (a b : Nat) : runIn ⟨(y : Int), (a : Int), (b : Int)⟩ p = (decide (p / 16 = y) && (decide (a ≤ p % 16) && decide (p % 16 < b))) := by
 unfold runIn
 rw [Bool.and_assoc]
 congr 1
 ·rw [decide_eq_decide]; simp only; omega
 ·congr 1
  ·rw [decide_eq_decide]; simp only; omega
  ·rw [decide_eq_decide]; simp only; omega
theorem gridF_nil (p : Nat) : gridF [] p = false := rfl
theorem gridF_cons (r : Run) (l : List Run) (p : Nat) : gridF (r :: l) p = (runIn r p || gridF l p) := rfl
theorem gridF_append (l m : List Run) (p : Nat) : gridF (l ++ m) p = (gridF l p || gridF m p) := by unfold gridF; rw [List.any_append]
theorem grid_scan (g : Nat → Bool) (y p : Nat) (hp : p < 256) : ∀ d x, 17 ≤ x + d → gridF (scanRow g y x) p = (decide (p / 16 = y) && (decide (x ≤ p % 16) && g p)) := by
 intro d
 induction d with
 | zero =>
  intro x hx
  rw [scan_end g y x (by omega), gridF_nil, decide_eq_false (show ¬ x ≤ p % 16 by omega), Bool.false_and, Bool.and_false]
 | succ d ih =>
  intro x hx
  by_cases h16 : x < 16
  ·by_cases hy : p / 16 = y
   ·have hpe : p = y * 16 + p % 16 := by omega
    cases hv : g (y * 16 + x) with
    | true =>
     have he := endAt_ge g y (16 - x) x
     have he2 := endAt_le g y (16 - x) x (by omega)
     have hin := endAt_in g y (16 - x) x
     have hend := endAt_end g y (16 - x) x (by omega) (by omega)
     have hst := endAt_step g y x h16 hv
     have he3 := endAt_ge g y (16 - (x + 1)) (x + 1)
     rw [← hst] at he3
     rw [scan_true g y x h16 hv, gridF_cons, runIn_row, ih _ (by omega)]
     generalize endAt g y (16 - x) x = e at *
     rw [decide_eq_true hy, Bool.true_and, Bool.true_and, Bool.true_and]
     by_cases c1 : x ≤ p % 16
     ·rw [decide_eq_true c1, Bool.true_and, Bool.true_and]
      by_cases c2 : p % 16 < e
      ·rw [decide_eq_true c2, Bool.true_or, hpe, hin (p % 16) c1 c2]
      ·rw [decide_eq_false c2, Bool.false_or]
       by_cases c3 : e + 1 ≤ p % 16
       ·rw [decide_eq_true c3, Bool.true_and]
       ·rw [decide_eq_false c3, Bool.false_and]
        rcases hend with h | h
        ·omega
        ·rw [show p % 16 = e by omega] at hpe
         rw [hpe, h]
     ·rw [decide_eq_false c1, Bool.false_and, Bool.false_and, Bool.false_or, decide_eq_false (show ¬ e + 1 ≤ p % 16 by omega), Bool.false_and]
    | false =>
     rw [scan_false g y x h16 hv, ih _ (by omega), decide_eq_true hy, Bool.true_and, Bool.true_and]
     by_cases c : x = p % 16
     ·rw [decide_eq_false (show ¬ x + 1 ≤ p % 16 by omega), Bool.false_and, decide_eq_true (show x ≤ p % 16 by omega), Bool.true_and, hpe, ← c, hv]
     ·congr 1
      rw [decide_eq_decide]; omega
   ·have hall : ∀ d x, 17 ≤ x + d → gridF (scanRow g y x) p = false := by
     intro d
     induction d with
     | zero => intro x hx; rw [scan_end g y x (by omega)]; rfl
     | succ d ih =>
      intro x hx
      by_cases h16 : x < 16
      ·cases hv : g (y * 16 + x) with
       | true =>
        have := endAt_ge g y (16 - x) x
        rw [scan_true g y x h16 hv, gridF_cons, runIn_row, decide_eq_false hy, Bool.false_and, Bool.false_or]
        exact ih _ (by omega)
       | false => rw [scan_false g y x h16 hv]; exact ih _ (by omega)
      ·rw [scan_end g y x (by omega)]; rfl
    rw [hall 17 x (by omega), decide_eq_false hy, Bool.false_and]
  ·rw [scan_end g y x (by omega), gridF_nil, decide_eq_false (show ¬ x ≤ p % 16 by omega), Bool.false_and, Bool.and_false]
theorem grid_runsTo (g : Nat → Bool) (p : Nat) (hp : p < 256) (n : Nat) : gridF (runsTo g n) p = (decide (p / 16 < n) && g p) := by
 induction n with
 | zero => simp [runsTo, gridF]
 | succ n ih =>
  rw [runsTo_succ, gridF_append, ih, grid_scan g n p hp 17 0 (by omega), decide_eq_true (Nat.zero_le _), Bool.true_and]
  by_cases c : p / 16 = n
  ·rw [decide_eq_true c, decide_eq_false (show ¬ p / 16 < n by omega), decide_eq_true (show p / 16 < n + 1 by omega), Bool.false_and, Bool.false_or]
  ·rw [decide_eq_false c, Bool.false_and, Bool.or_false]
   congr 1
   rw [decide_eq_decide]; omega
theorem grid_runs (g : Nat → Bool) (p : Nat) (hp : p < 256) : gridF (runsL g) p = g p := by
 unfold runsL
 rw [grid_runsTo g p hp, decide_eq_true (show p / 16 < 16 by omega), Bool.true_and]
/-! the runs are valid -/
def rowsFrom (g : Nat → Bool) (y n : Nat) : List Run := (List.range' y n).flatMap fun y => scanRow g y 0
theorem rowsFrom_succ (g : Nat → Bool) (y n : Nat) : rowsFrom g y (n + 1) = scanRow g y 0 ++ rowsFrom g (y + 1) n := by
 simp [rowsFrom, List.range'_succ]
theorem runsL_rows (g : Nat → Bool) : runsL g = rowsFrom g 0 16 := by
 unfold runsL runsTo rowsFrom
 rw [List.range_eq_range']
def ahead (y x : Nat) (p : Option Run) : Prop := ∀ r, p = some r → r.f0 < (y : Int) ∨ (r.f0 = (y : Int) ∧ r.f2 < (x : Int))
theorem scan_valid (g : Nat → Bool) (y : Nat) (hy : y < 16) (rest : List Run) (hrest : ∀ p, (∀ r, p = some r → r.f0 ≤ (y : Int)) → validFrom p rest = true) :
  ∀ d x p, 17 ≤ x + d → (ahead y x p ∨ (x = 0 ∧ ∀ r, p = some r → r.f0 < (y : Int))) → validFrom p (scanRow g y x ++ rest) = true := by
 intro d
 induction d with
 | zero =>
  intro x p hx hp
  rw [scan_end g y x (by omega), List.nil_append]
  refine hrest p (fun r hr => ?_)
  rcases hp with hp | hp
  ·have := hp r hr; omega
  ·have := hp.2 r hr; omega
 | succ d ih =>
  intro x p hx hp
  by_cases h16 : x < 16
  ·cases hv : g (y * 16 + x) with
   | true =>
    have he2 := endAt_le g y (16 - x) x (by omega)
    have hst := endAt_step g y x h16 hv
    have he3 := endAt_ge g y (16 - (x + 1)) (x + 1)
    rw [← hst] at he3
    rw [scan_true g y x h16 hv, List.cons_append]
    generalize endAt g y (16 - x) x = e at *
    have hok : runOK ⟨(y : Int), (x : Int), (e : Int)⟩ = true := by rw [runOK_iff]; simp only; omega
    have hnext : validFrom (some ⟨(y : Int), (x : Int), (e : Int)⟩) (scanRow g y (e + 1) ++ rest) = true := by
     refine ih (e + 1) _ (by omega) (.inl (fun r hr => ?_))
     injection hr with hr
     subst hr
     right
     simp only
     exact ⟨trivial, by omega⟩
    cases p with
    | none => simp only [validFrom, hok, hnext, Bool.and_true]
    | some q =>
     have haft : runAfter q ⟨(y : Int), (x : Int), (e : Int)⟩ = true := by
      rw [runAfter_iff]
      simp only
      rcases hp with hp | hp
      ·have := hp q rfl; omega
      ·have := hp.2 q rfl; omega
     simp only [validFrom, hok, haft, hnext, Bool.and_true]
   | false =>
    rw [scan_false g y x h16 hv]
    refine ih (x + 1) p (by omega) (.inl (fun r hr => ?_))
    rcases hp with hp | hp
    ·have := hp r hr; omega
    ·have := hp.2 r hr; omega
  ·rw [scan_end g y x (by omega), List.nil_append]
   refine hrest p (fun r hr => ?_)
   rcases hp with hp | hp
   ·have := hp r hr; omega
   ·have := hp.2 r hr; omega
theorem rows_valid (g : Nat → Bool) : ∀ n y : Nat, y + n ≤ 16 → ∀ p : Option Run, (∀ r, p = some r → r.f0 < (y : Int)) → validFrom p (rowsFrom g y n) = true := by
 intro n
 induction n with
 | zero =>
  intro y _ p _
  cases p <;> rfl
 | succ n ih =>
  intro y hy p hp
  rw [rowsFrom_succ]
  exact scan_valid g y (by omega) _ (fun p' hp' => ih (y + 1) (by omega) p' (fun r hr => by have := hp' r hr; omega)) 17 0 p (by omega) (.inr ⟨rfl, hp⟩)
theorem runs_valid (g : Nat → Bool) : validR (runsL g) = true := by
 rw [runsL_rows]
 exact rows_valid g 16 0 (by omega) none (fun r hr => by cases hr)
/-! their area -/

/- The connected parts of a grid: the program's search through runs and the reference's search through pixels find the same. -/

theorem reach_congr {g g' : Nat → Bool} (h : ∀ p, p < 256 → g p = g' p) {s q : Nat} (hr : Q.Reach g s q) : Q.Reach g' s q := by
 induction hr with
 | here => exact .here
 | step q r _ ha h2 hg ih => exact .step q r ih ha h2 (by rw [← h r h2]; exact hg)
theorem comp_congr {g g' : Nat → Bool} (h : ∀ p, p < 256 → g p = g' p) (s q : Nat) : comp g s q = comp g' s q := by
 rw [Bool.eq_iff_iff, comp_iff, comp_iff]
 exact ⟨reach_congr h, reach_congr (fun p hp => (h p hp).symm)⟩
noncomputable def partsS : Nat → Nat → (Nat → Bool) → List (List Run)
 | 0, _, _ => []
 | n + 1, a, g => if g a = true then runsL (comp g a) :: partsS n (a + 1) (fun q => g q && !(comp g a q)) else partsS n (a + 1) g
theorem partsS_congr : ∀ (n a : Nat) (g g' : Nat → Bool), a + n = 256 → (∀ q, q < 256 → g q = g' q) → partsS n a g = partsS n a g' := by
 intro n
 induction n with
 | zero => intro a g g' _ _; rfl
 | succ n ih =>
  intro a g g' ha h
  unfold partsS
  rw [h a (by omega)]
  have hc := comp_congr h a
  split
  ·congr 1
   ·exact runsL_congr (fun p _ => hc p)
   ·exact ih _ _ _ (by omega) (fun q hq => by rw [h q hq, hc q])
  ·exact ih _ _ _ (by omega) h
theorem partsS_len : ∀ (n a : Nat) (g : Nat → Bool), (partsS n a g).length ≤ n := by
 intro n
 induction n with
 | zero => intro a g; exact Nat.le_refl _
 | succ n ih =>
  intro a g
  unfold partsS
  split
  ·rw [List.length_cons]; have := ih (a + 1) (fun q => g q && !(comp g a q)); omega
  ·have := ih (a + 1) g; omega
theorem partsS_each : ∀ (n a : Nat) (g : Nat → Bool), ∀ r ∈ partsS n a g, ∃ f, r = runsL f := by
 intro n
 induction n with
 | zero => intro a g r hr; cases hr
 | succ n ih =>
  intro a g r hr
  unfold partsS at hr
  split at hr
  ·rcases List.mem_cons.1 hr with c | c
   ·exact ⟨_, c⟩
   ·exact ih _ _ r c
  ·exact ih _ _ r hr
theorem runsL_ne (g : Nat → Bool) (p : Nat) (hp : p < 256) (h : g p = true) : runsL g ≠ [] := by
 intro e
 have := grid_runs g p hp
 rw [e, h] at this
 cases this
theorem partsS_ne : ∀ (n a : Nat) (g : Nat → Bool), a + n ≤ 256 → ∀ r ∈ partsS n a g, r ≠ [] := by
 intro n
 induction n with
 | zero => intro a g _ r hr; cases hr
 | succ n ih =>
  intro a g ha r hr
  unfold partsS at hr
  split at hr
  ·rcases List.mem_cons.1 hr with c | c
   ·rw [c]
    exact runsL_ne _ a (by omega) ((comp_iff g a a).2 .here)
   ·exact ih _ _ (by omega) r c
  ·exact ih _ _ (by omega) r hr

/- Copies of a list of Box: they are the list. -/

abbrev Box := S47

/- The reader of draws: whatever the code's bytes are, it answers, in range. -/

/-- What a reader reads from: at most 2000 bytes. -/
def Bytes (b : List Int) : Prop := b.length ≤ 2000 ∧ ∀ x ∈ b, 0 ≤ x ∧ x ≤ 255
theorem Bytes.rd_ {b : List Int} (h : Bytes b) (i : Int) : 0 ≤ rd b i ∧ rd b i ≤ 255 := by
  unfold rd
  by_cases c : i.toNat < b.length
  · rw [List.getD_eq_getElem?_getD, List.getElem?_eq_getElem c]; exact h.2 _ (List.getElem_mem c)
  · rw [List.getD_eq_getElem?_getD, List.getElem?_eq_none (by omega)]; simp
theorem xor_nn (a b : Int) (ha : 0 ≤ a) (ha' : a < 4611686018427387904) (hb : 0 ≤ b) (hb' : b < 4611686018427387904) : 0 ≤ Go.bits .xor .i64 a b := by
  obtain ⟨a, rfl⟩ := Int.eq_ofNat_of_zero_le ha
  obtain ⟨b, rfl⟩ := Int.eq_ofNat_of_zero_le hb
  have ha2 : a < 2 ^ 62 := by have : (2 : Nat) ^ 62 = 4611686018427387904 := by decide +kernel
                              omega
  have hb2 : b < 2 ^ 62 := by have : (2 : Nat) ^ 62 = 4611686018427387904 := by decide +kernel
                              omega
  have e64 : IntKind.bits .i64 = 64 := rfl
  have hx := Nat.xor_lt_two_pow ha2 hb2
  have h62 : (2 : Nat) ^ 62 = 4611686018427387904 := by decide +kernel
  have h64 : (2 : Nat) ^ 64 = 18446744073709551616 := by decide +kernel
  simp only [Go.bits, BitVec.ofInt_natCast, BitVec.toNat_xor, BitVec.toNat_ofNat, e64]
  rw [Nat.mod_eq_of_lt (by omega), Nat.mod_eq_of_lt (by omega), IntKind.wrap_i64]
  generalize a ^^^ b = z at *
  omega
theorem tmod_range (x n : Int) (hx : 0 ≤ x) (hn : 1 ≤ n) : 0 ≤ Int.tmod x n ∧ Int.tmod x n < n := by
  rw [tmod_nn _ _ hx]
  exact ⟨Int.emod_nonneg _ (by omega), Int.emod_lt_of_pos _ (by omega)⟩
theorem pick_at (b : List Int) (p n : Int) (hb : Bytes b) (hp0 : 0 ≤ p) (hp : p ≤ 1000000000000) :
    ∃ v, (∀ k, 0 < k → spec_reader_pick.f k b p n = some (v, p + 1)) ∧ 0 ≤ v ∧ (1 ≤ n → v < n) ∧ (n < 1 → v = 0) := by
  by_cases hn : n < 1
  · refine ⟨0, fun k hk => ?_, by omega, by omega, fun _ => rfl⟩
    obtain ⟨k, rfl⟩ : ∃ m, k = m + 1 := ⟨k - 1, by omega⟩
    unfold spec_reader_pick.f
    rw [if_pos hn, w64 (by omega) (by omega)]
    simp only [spec_reader_pick.j0, if_true]
  by_cases he : b.length = 0
  · refine ⟨0, fun k hk => ?_, by omega, by omega, fun _ => rfl⟩
    obtain ⟨k, rfl⟩ : ∃ m, k = m + 1 := ⟨k - 1, by omega⟩
    unfold spec_reader_pick.f
    rw [if_neg hn, w64 (by omega) (by omega)]
    simp only [spec_reader_pick.j0, he]; simp
  have hlen := hb.1
  by_cases hlt : p < (b.length : Int)
  · have hr := hb.rd_ p
    have ht := tmod_range (rd b p) n hr.1 (by omega)
    refine ⟨Int.tmod (rd b p) n, fun k hk => ?_, ht.1, fun _ => ht.2, by omega⟩
    obtain ⟨k, rfl⟩ : ∃ m, k = m + 1 := ⟨k - 1, by omega⟩
    unfold spec_reader_pick.f
    rw [if_neg hn, w64 (x := p + 1) (by omega) (by omega)]
    simp only [spec_reader_pick.j0]
    rw [if_neg (by simp only [beq_iff_eq]; omega), w64 (x := p + 1 - 1) (by omega) (by omega), show p + 1 - 1 = p by omega, if_pos hlt, if_pos hp0, if_neg (by omega), w64 (x := rd b p) (by omega) (by omega)]
  · have h1 := tmod_range p (b.length : Int) hp0 (by omega)
    have h2 := tmod_range (p * 7 + 3) (b.length : Int) (by omega) (by omega)
    have r1 := hb.rd_ (Int.tmod p (b.length : Int))
    have r2 := hb.rd_ (Int.tmod (p * 7 + 3) (b.length : Int))
    have hd : 0 ≤ Int.tdiv p (b.length : Int) ∧ Int.tdiv p (b.length : Int) ≤ p := by
      rw [tdiv_nn _ _ hp0]
      exact ⟨Int.ediv_nonneg hp0 (by omega), Int.ediv_le_self _ hp0⟩
    generalize h1e : Int.tmod p (b.length : Int) = t1 at *
    generalize h2e : Int.tmod (p * 7 + 3) (b.length : Int) = t2 at *
    generalize hde : Int.tdiv p (b.length : Int) = d at *
    generalize hr1e : rd b t1 = x1 at *
    generalize hr2e : rd b t2 = x2 at *
    have hx := xor_nn (x1 * 131 + x2 * 1117 + p * 29 + d * 53) ((x1 * 131 + x2 * 1117 + p * 29 + d * 53) / 64) (by omega) (by omega) (by omega) (by omega)
    have ht := tmod_range _ n hx (by omega)
    refine ⟨Int.tmod (Go.bits .xor .i64 (x1 * 131 + x2 * 1117 + p * 29 + d * 53) ((x1 * 131 + x2 * 1117 + p * 29 + d * 53) / 64)) n, fun k hk => ?_, ht.1, fun _ => ht.2, by omega⟩
    obtain ⟨k, rfl⟩ : ∃ m, k = m + 1 := ⟨k - 1, by omega⟩
    unfold spec_reader_pick.f
    rw [if_neg hn, w64 (x := p + 1) (by omega) (by omega)]
    simp only [spec_reader_pick.j0]
    rw [if_neg (by simp only [beq_iff_eq]; omega), w64 (x := p + 1 - 1) (by omega) (by omega), show p + 1 - 1 = p by omega, if_neg hlt, if_neg (by omega),
      w64 (x := p * 7) (by omega) (by omega), w64 (x := p * 7 + 3) (by omega) (by omega), h1e, h2e, hde, hr1e, hr2e, if_pos (by omega), if_pos (by omega), if_pos (by omega), if_pos (by omega), if_neg (by omega),
      w64 (x := x1) (by omega) (by omega), w64 (x := x2) (by omega) (by omega), w64 (x := d) (by omega) (by omega), w64 (x := x1 * 131) (by omega) (by omega), w64 (x := x2 * 1117) (by omega) (by omega), w64 (x := p * 29) (by omega) (by omega), w64 (x := d * 53) (by omega) (by omega),
      w64 (x := x1 * 131 + x2 * 1117) (by omega) (by omega), w64 (x := x1 * 131 + x2 * 1117 + p * 29) (by omega) (by omega), w64 (x := x1 * 131 + x2 * 1117 + p * 29 + d * 53) (by omega) (by omega), tdiv_nn _ 64 (by omega),
      w64 (x := (x1 * 131 + x2 * 1117 + p * 29 + d * 53) / 64) (by omega) (by omega)]
theorem one_at (b : List Int) (p : Int) (l : List Int) (hl : 0 < l.length) (hl' : l.length ≤ 1000) (hb : Bytes b) (hp0 : 0 ≤ p) (hp : p ≤ 1000000000000) :
    ∃ v, (∀ k, 0 < k → spec_reader_one.f k b p l = some (v, p + 1)) ∧ v ∈ l := by
  obtain ⟨v, hv, h0, h1, _⟩ := pick_at b p (l.length : Int) hb hp0 hp
  have h1' := h1 (by omega)
  obtain ⟨v, rfl⟩ := Int.eq_ofNat_of_zero_le h0
  refine ⟨l[v]'(by omega), fun k hk => ?_, List.getElem_mem _⟩
  unfold spec_reader_one.f
  rw [hv k hk]
  simp only [Option.bind_some]
  rw [if_pos (by omega), if_pos (by omega), rd_nat l v (by omega)]
theorem newReader_at (l : List Int) (h : ∀ x ∈ l, 0 ≤ x ∧ x ≤ 255) : ∃ b, spec_newReader.f l = some (b, 0) ∧ Bytes b := by
  unfold spec_newReader.f
  by_cases c : (l.length : Int) > 2000
  · rw [if_pos c, if_pos (by omega)]
    exact ⟨_, rfl, by rw [List.length_take]; omega, fun x hx => h x (List.mem_of_mem_take hx)⟩
  · rw [if_neg c]
    exact ⟨_, rfl, by omega, h⟩
/-- What a law is told of its code: bytes. -/
theorem code_bytes (l : List Int) (h : ∀ x ∈ l, (Lit.int .u8 x).wf = true) : ∀ x ∈ l, 0 ≤ x ∧ x ≤ 255 := by
  intro x hx
  have := h x hx
  simp only [Lit.wf, Bool.and_eq_true, decide_eq_true_eq] at this
  have e1 : IntKind.min .u8 = 0 := by decide
  have e2 : IntKind.max .u8 = 255 := by decide
  omega

/- Images that are drawn from bytes. -/

theorem one_in (b : List Int) (p : Int) (l : List Int) (hl : 0 < l.length) (hl' : l.length ≤ 1000) (hb : Bytes b) (hp0 : 0 ≤ p) (hp : p ≤ 1000000000000) : ∃ v, Ev (fun k => spec_reader_one.f k b p l) (v, p + 1) ∧ v ∈ l := by
 obtain ⟨v, h, hv⟩ := one_at b p l hl hl' hb hp0 hp
 exact ⟨v, ev_of 0 h, hv⟩
theorem pick_in (b : List Int) (p n : Int) (hn : 1 ≤ n) (hb : Bytes b) (hp0 : 0 ≤ p) (hp : p ≤ 1000000000000) : ∃ v, Ev (fun k => spec_reader_pick.f k b p n) (v, p + 1) ∧ 0 ≤ v ∧ v < n := by
 obtain ⟨v, h, h0, h1, _⟩ := pick_at b p n hb hp0 hp
 exact ⟨v, ev_of 0 h, h0, h1 hn⟩
theorem newImage_eq (w h p : Int) (hs : 1 ≤ w ∧ w ≤ 16 ∧ 1 ≤ h ∧ h ≤ 16 ∧ 1 ≤ p ∧ p ≤ 4) : spec_newImage.f w h p = some (w, h, p, List.replicate (w * h * p).toNat 0) := by
 have := shape_prod hs
 unfold spec_newImage.f
 rw [shape_wrap hs, if_pos (by omega), if_pos (by omega)]
theorem randomLoop (b : List Int) (hb : Bytes b) (m : Int) (w h p : Int) : ∀ (n i : Nat) (x pos : Int) (d : List Int), i + n = d.length → 0 ≤ pos → pos + n ≤ 1000000000000 → d.length ≤ 1000000 →
  ∃ (d' : List Int) (q : Int), d'.length = d.length ∧ pos ≤ q ∧ q ≤ pos + n ∧ Ev (fun k => spec_randomImage.l0 k m x (i : Int) b pos w h p d) (w, h, p, d', q) := by
 intro n
 induction n with
 | zero =>
  intro i x pos d hi h0 h1 h2
  refine ⟨d, pos, rfl, by omega, by omega, ?_⟩
  refine Ev.step (f := fun _ => some (w, h, p, d, pos)) (fun k => ?_) (Ev.now _)
  simp only [spec_randomImage.l0]
  rw [if_neg (by omega)]
 | succ n ih =>
  intro i x pos d hi h0 h1 h2
  have go : ∀ (v x' pos' : Int), pos ≤ pos' → pos' ≤ pos + 1 → ∃ (d' : List Int) (q : Int), d'.length = d.length ∧ pos ≤ q ∧ q ≤ pos + ((n + 1 : Nat) : Int) ∧ Ev (fun k => spec_randomImage.l0 k m x' ((i + 1 : Nat) : Int) b pos' w h p (d.set i v)) (w, h, p, d', q) := by
   intro v x' pos' a1 a2
   obtain ⟨d', q, e1, e2, e3, e4⟩ := ih (i + 1) x' pos' (d.set i v) (by rw [List.length_set]; omega) (by omega) (by omega) (by rw [List.length_set]; omega)
   exact ⟨d', q, by rw [e1, List.length_set], by omega, by omega, e4⟩
  by_cases c0 : m = 0
  ·obtain ⟨v, hv, _, _⟩ := pick_in b pos 256 (by omega) hb h0 (by omega)
   obtain ⟨d', q, e1, e2, e3, e4⟩ := go v v (pos + 1) (by omega) (by omega)
   refine ⟨d', q, e1, e2, e3, ?_⟩
   refine Ev.step (f := fun k => (spec_reader_pick.f k b pos 256).bind fun bt => if 0 ≤ (i : Int) then spec_randomImage.l0 k m bt.1 (wrap64 ((i : Int) + 1)) b bt.2 w h p (d.set (i : Int).toNat bt.1) else none) (fun k => ?_) ?_
   ·simp only [spec_randomImage.l0]
    rw [if_pos (by omega), if_pos c0]
   ·refine ev_bind hv (ev_pos (by omega) ?_)
    simp only [Int.toNat_natCast, w64n i (by omega)]
    exact e4
  ·by_cases c1 : m = 1
   ·obtain ⟨v, hv, _, _⟩ := pick_in b pos 5 (by omega) hb h0 (by omega)
    obtain ⟨d', q, e1, e2, e3, e4⟩ := go (Int.tmod (wrap64 ((wrap64 (x + v)) + 254)) 256) (Int.tmod (wrap64 ((wrap64 (x + v)) + 254)) 256) (pos + 1) (by omega) (by omega)
    refine ⟨d', q, e1, e2, e3, ?_⟩
    refine Ev.step (f := fun k => (spec_reader_pick.f k b pos 5).bind fun bt => if 0 ≤ (i : Int) then spec_randomImage.l0 k m (Int.tmod (wrap64 ((wrap64 (x + bt.1)) + 254)) 256) (wrap64 ((i : Int) + 1)) b bt.2 w h p (d.set (i : Int).toNat (Int.tmod (wrap64 ((wrap64 (x + bt.1)) + 254)) 256)) else none) (fun k => ?_) ?_
    ·simp only [spec_randomImage.l0]
     rw [if_pos (by omega), if_neg c0, if_pos c1]
    ·refine ev_bind hv (ev_pos (by omega) ?_)
     simp only [Int.toNat_natCast, w64n i (by omega)]
     exact e4
   ·by_cases c2 : m = 2
    ·obtain ⟨v, hv, _, _⟩ := pick_in b pos 4 (by omega) hb h0 (by omega)
     obtain ⟨d', q, e1, e2, e3, e4⟩ := go (wrap64 (60 * v)) (wrap64 (60 * v)) (pos + 1) (by omega) (by omega)
     refine ⟨d', q, e1, e2, e3, ?_⟩
     refine Ev.step (f := fun k => (spec_reader_pick.f k b pos 4).bind fun bt => if 0 ≤ (i : Int) then spec_randomImage.l0 k m (wrap64 (60 * bt.1)) (wrap64 ((i : Int) + 1)) b bt.2 w h p (d.set (i : Int).toNat (wrap64 (60 * bt.1))) else none) (fun k => ?_) ?_
     ·simp only [spec_randomImage.l0]
      rw [if_pos (by omega), if_neg c0, if_neg c1, if_pos c2]
     ·refine ev_bind hv (ev_pos (by omega) ?_)
      simp only [Int.toNat_natCast, w64n i (by omega)]
      exact e4
    ·obtain ⟨d', q, e1, e2, e3, e4⟩ := go x x pos (by omega) (by omega)
     refine ⟨d', q, e1, e2, e3, Ev.step (fun k => ?_) e4⟩
     simp only [spec_randomImage.l0]
     rw [if_pos (by omega), if_neg c0, if_neg c1, if_neg c2, if_pos (by omega), Int.toNat_natCast, w64n i (by omega)]
theorem randomImage_ev (b : List Int) (pos p : Int) (hb : Bytes b) (h0 : 0 ≤ pos) (h1 : pos ≤ 100000000) (hp : 1 ≤ p ∧ p ≤ 4) :
  ∃ (w h : Int) (d : List Int) (q : Int), 1 ≤ w ∧ w ≤ 8 ∧ 1 ≤ h ∧ h ≤ 8 ∧ (d.length : Int) = w * h * p ∧ 1 ≤ d.length ∧ d.length ≤ 1024 ∧ pos ≤ q ∧ q ≤ pos + 2000 ∧ Ev (fun k => spec_randomImage.f k b pos p) (w, h, p, d, q) := by
 obtain ⟨w, hw, mw⟩ := one_in b pos [3, 4, 2, 5, 1, 8, 6] (by simp) (by simp) hb h0 (by omega)
 obtain ⟨h, hh, mh⟩ := one_in b (pos + 1) [3, 2, 4, 1, 5, 8] (by simp) (by simp) hb (by omega) (by omega)
 obtain ⟨m, hm, _, _⟩ := pick_in b (pos + 1 + 1) 4 (by omega) hb (by omega) (by omega)
 obtain ⟨x, hx, _, _⟩ := pick_in b (pos + 1 + 1 + 1) 256 (by omega) hb (by omega) (by omega)
 have bw : 1 ≤ w ∧ w ≤ 8 := by simp only [List.mem_cons, List.not_mem_nil, or_false] at mw; omega
 have bh : 1 ≤ h ∧ h ≤ 8 := by simp only [List.mem_cons, List.not_mem_nil, or_false] at mh; omega
 have hs : 1 ≤ w ∧ w ≤ 16 ∧ 1 ≤ h ∧ h ≤ 16 ∧ 1 ≤ p ∧ p ≤ 4 := by omega
 have hpr := shape_prod hs
 have hpos : 1 ≤ w * h * p := by
  have e1 : 1 * 1 ≤ w * h := Int.mul_le_mul (by omega) (by omega) (by omega) (by omega)
  have e2 : 1 * 1 ≤ w * h * p := Int.mul_le_mul (by omega) (by omega) (by omega) (by omega)
  omega
 have hlen : (List.replicate (w * h * p).toNat (0 : Int)).length = (w * h * p).toNat := List.length_replicate
 obtain ⟨d', q, e1, e2, e3, e4⟩ := randomLoop b hb m w h p (w * h * p).toNat 0 x (pos + 1 + 1 + 1 + 1) (List.replicate (w * h * p).toNat 0) (by omega) (by omega) (by omega) (by omega)
 refine ⟨w, h, d', q, bw.1, bw.2, bh.1, bh.2, by omega, by omega, by omega, by omega, by omega, ?_⟩
 unfold spec_randomImage.f
 exact ev_bind hw (ev_bind hh (ev_now (newImage_eq w h p hs) (ev_bind hm (ev_bind hx e4))))
theorem anyPlanes_ev (b : List Int) (pos : Int) (hb : Bytes b) (h0 : 0 ≤ pos) (h1 : pos ≤ 100000000) : ∃ p, 1 ≤ p ∧ p ≤ 4 ∧ Ev (fun k => spec_anyPlanes.f k b pos) (p, pos + 1) := by
 obtain ⟨p, hp, mp⟩ := one_in b pos [1, 3, 1, 4, 2] (by simp) (by simp) hb h0 (by omega)
 simp only [List.mem_cons, List.not_mem_nil, or_false] at mp
 refine ⟨p, by omega, by omega, ?_⟩
 unfold spec_anyPlanes.f
 exact ev_bind hp (Ev.now _)
theorem spoilImage_ev (b : List Int) (pos : Int) (w h p : Int) (d : List Int) (hb : Bytes b) (h0 : 0 ≤ pos) (h1 : pos ≤ 100000000) (hd : 1 ≤ d.length) :
  ∃ (w' h' p' : Int) (d' : List Int) (q : Int), d'.length ≤ d.length ∧ pos ≤ q ∧ q ≤ pos + 2 ∧ Ev (fun k => spec_spoilImage.f k b pos w h p d) (w', h', p', d', q) := by
 obtain ⟨v, hv, _, _⟩ := pick_in b pos 40 (by omega) hb h0 (by omega)
 unfold spec_spoilImage.f
 by_cases c0 : v = 0
 ·obtain ⟨x, hx, _⟩ := one_in b (pos + 1) [0, 17, wrap64 (w + 1)] (by simp) (by simp) hb (by omega) (by omega)
  exact ⟨x, h, p, d, pos + 1 + 1, by omega, by omega, by omega, ev_bind hv (ev_pos c0 (ev_bind hx (Ev.now _)))⟩
 ·by_cases c1 : v = 1
  ·exact ⟨w, h, p, d.drop (1 : Int).toNat, pos + 1, by rw [List.length_drop]; omega, by omega, by omega, ev_bind hv (ev_neg c0 (ev_pos c1 (ev_pos (by omega) (Ev.now _))))⟩
  ·by_cases c2 : v = 2
   ·obtain ⟨x, hx, _⟩ := one_in b (pos + 1) [(-1), 256] (by simp) (by simp) hb (by omega) (by omega)
    exact ⟨w, h, p, d.set (0 : Int).toNat x, pos + 1 + 1, by rw [List.length_set]; omega, by omega, by omega, ev_bind hv (ev_neg c0 (ev_neg c1 (ev_pos c2 (ev_bind hx (ev_pos (by omega) (Ev.now _))))))⟩
   ·by_cases c3 : v = 3
    ·obtain ⟨x, hx, _⟩ := one_in b (pos + 1) [0, 5] (by simp) (by simp) hb (by omega) (by omega)
     exact ⟨w, h, x, d, pos + 1 + 1, by omega, by omega, by omega, ev_bind hv (ev_neg c0 (ev_neg c1 (ev_neg c2 (ev_pos c3 (ev_bind hx (Ev.now _))))))⟩
    ·exact ⟨w, h, p, d, pos + 1, by omega, by omega, by omega, ev_bind hv (ev_neg c0 (ev_neg c1 (ev_neg c2 (ev_neg c3 (Ev.now _)))))⟩
theorem anyImage_ev (b : List Int) (pos : Int) (hb : Bytes b) (h0 : 0 ≤ pos) (h1 : pos ≤ 90000000) :
  ∃ (w h p : Int) (d : List Int) (q : Int), d.length ≤ 1024 ∧ pos ≤ q ∧ q ≤ pos + 3000 ∧ Ev (fun k => spec_anyImage.f k b pos) (w, h, p, d, q) := by
 obtain ⟨p, p1, p2, hp⟩ := anyPlanes_ev b pos hb h0 (by omega)
 obtain ⟨w, h, d, q, _, _, _, _, _, d1, d2, q1, q2, hr⟩ := randomImage_ev b (pos + 1) p hb (by omega) (by omega) ⟨p1, p2⟩
 obtain ⟨w', h', p', d', q', d3, q3, q4, hs⟩ := spoilImage_ev b q w h p d hb (by omega) (by omega) d1
 refine ⟨w', h', p', d', q', by omega, by omega, by omega, ?_⟩
 unfold spec_anyImage.f
 exact ev_bind hp (ev_bind hr (ev_bind hs (Ev.now _)))

/- Two images that are drawn from bytes. -/

theorem copyI_eq (l : List Int) (hl : l.length ≤ 1000000) : spec_copyInts.f l = some l := by
 unfold spec_copyInts.f
 simp only [Option.bind_some]
 rw [if_pos (by simp; omega)]
 simp
theorem twoLoop (b : List Int) (hb : Bytes b) (w h p : Int) (d : List Int) (w' h' p' : Int) : ∀ (m : Nat) (pos : Int) (d' : List Int), 0 ≤ pos → pos + 2 * m ≤ 80000000 → m ≤ 1000 → d'.length ≤ 1024 →
  ∃ (u v s : Int) (e : List Int) (q : Int), e.length ≤ 1024 ∧ pos ≤ q ∧ q ≤ pos + 2 * m + 4000 ∧ Ev (fun k => spec_twoImages.l0 k (m : Int) b pos w h p d w' h' p' d') (w, h, p, d, u, v, s, e, q) := by
 have stop : ∀ (m : Nat) (pos : Int) (d' : List Int), 0 ≤ pos → pos ≤ 80000000 → d'.length ≤ 1024 →
   ∃ (u v s : Int) (e : List Int) (q : Int), e.length ≤ 1024 ∧ pos ≤ q ∧ q ≤ pos + 4000 ∧ Ev (fun k => spec_twoImages.j1 k (m : Int) false b pos w h p d w' h' p' d') (w, h, p, d, u, v, s, e, q) := by
  intro m pos d' h0 h1 hd
  obtain ⟨x, hx, _, _⟩ := pick_in b pos 16 (by omega) hb h0 (by omega)
  by_cases c : x = 0
  ·obtain ⟨u, v, s, e, q, he, q1, q2, hq⟩ := anyImage_ev b (pos + 1) hb (by omega) (by omega)
   refine ⟨u, v, s, e, q, he, by omega, by omega, ?_⟩
   refine Ev.step (f := fun k => (spec_reader_pick.f k b pos 16).bind fun bt => if bt.1 = 0 then ((spec_anyImage.f k b bt.2).bind fun z => some (w, h, p, d, z.1, z.2.1, z.2.2.1, z.2.2.2.1, z.2.2.2.2)) else some (w, h, p, d, w', h', p', d', bt.2)) (fun k => ?_) (ev_bind hx (ev_pos c (ev_bind hq (Ev.now _))))
   simp only [spec_twoImages.j1]
   rw [if_neg (by simp)]
  ·refine ⟨w', h', p', d', pos + 1, hd, by omega, by omega, ?_⟩
   refine Ev.step (f := fun k => (spec_reader_pick.f k b pos 16).bind fun bt => if bt.1 = 0 then ((spec_anyImage.f k b bt.2).bind fun z => some (w, h, p, d, z.1, z.2.1, z.2.2.1, z.2.2.2.1, z.2.2.2.2)) else some (w, h, p, d, w', h', p', d', bt.2)) (fun k => ?_) (ev_bind hx (ev_neg c (Ev.now _)))
   simp only [spec_twoImages.j1]
   rw [if_neg (by simp)]
 intro m
 induction m with
 | zero =>
  intro pos d' h0 h1 h2 hd
  obtain ⟨u, v, s, e, q, he, q1, q2, hq⟩ := stop 0 pos d' h0 (by omega) hd
  refine ⟨u, v, s, e, q, he, q1, by omega, Ev.step (fun k => ?_) hq⟩
  simp only [spec_twoImages.l0]
  rw [if_neg (by simp)]
 | succ m ih =>
  intro pos d' h0 h1 h2 hd
  by_cases c : (d'.length : Int) > 0
  ·obtain ⟨x, hx, x0, x1⟩ := pick_in b pos (d'.length : Int) (by omega) hb h0 (by omega)
   obtain ⟨y, hy, _, _⟩ := pick_in b (pos + 1) 256 (by omega) hb (by omega) (by omega)
   obtain ⟨u, v, s, e, q, he, q1, q2, hq⟩ := ih (pos + 1 + 1) (d'.set x.toNat y) (by omega) (by omega) (by omega) (by rw [List.length_set]; exact hd)
   refine ⟨u, v, s, e, q, he, by omega, by omega, ?_⟩
   have hj : Ev (fun k => spec_twoImages.j1 k ((m + 1 : Nat) : Int) true b pos w h p d w' h' p' d') (w, h, p, d, u, v, s, e, q) := by
    refine Ev.step (f := fun k => (spec_reader_pick.f k b pos (d'.length : Int)).bind fun bt => (spec_reader_pick.f k b bt.2 256).bind fun ct => if 0 ≤ bt.1 then (if bt.1 < (d'.length : Int) then spec_twoImages.l0 k (wrap64 (((m + 1 : Nat) : Int) - 1)) b ct.2 w h p d w' h' p' (d'.set (bt.1 : Int).toNat ct.1) else none) else none) (fun k => ?_) (ev_bind hx (ev_bind hy (ev_pos x0 (ev_pos x1 ?_))))
    ·simp only [spec_twoImages.j1]
     rw [if_pos trivial]
    ·rw [w64 (x := ((m + 1 : Nat) : Int) - 1) (by omega) (by omega), show ((m + 1 : Nat) : Int) - 1 = (m : Int) by omega]
     exact hq
   refine Ev.step (fun k => ?_) hj
   simp only [spec_twoImages.l0]
   rw [if_pos (by omega), decide_eq_true c]
  ·obtain ⟨u, v, s, e, q, he, q1, q2, hq⟩ := stop (m + 1) pos d' h0 (by omega) hd
   refine ⟨u, v, s, e, q, he, q1, by omega, Ev.step (fun k => ?_) hq⟩
   simp only [spec_twoImages.l0]
   rw [if_pos (by omega), decide_eq_false c]
theorem twoImages_ev (b : List Int) (pos : Int) (hb : Bytes b) (h0 : 0 ≤ pos) (h1 : pos ≤ 1000000) :
  ∃ (w h p : Int) (d : List Int) (w' h' p' : Int) (d' : List Int) (q : Int), d.length ≤ 1024 ∧ d'.length ≤ 1024 ∧ pos ≤ q ∧ q ≤ pos + 9000 ∧ Ev (fun k => spec_twoImages.f k b pos) (w, h, p, d, w', h', p', d', q) := by
 obtain ⟨w, h, p, d, q, hd, q1, q2, hi⟩ := anyImage_ev b pos hb h0 (by omega)
 obtain ⟨m, hm, m0, m1⟩ := pick_in b q 6 (by omega) hb (by omega) (by omega)
 obtain ⟨M, rfl⟩ := Int.eq_ofNat_of_zero_le m0
 obtain ⟨u, v, s, e, q', he, q3, q4, hl⟩ := twoLoop b hb w h p d w h p M (q + 1) d (by omega) (by omega) (by omega) hd
 refine ⟨w, h, p, d, u, v, s, e, q', hd, he, by omega, by omega, ?_⟩
 unfold spec_twoImages.f
 exact ev_bind hi (ev_now (copyI_eq d (by omega)) (ev_bind hm hl))

/- Lists of numbers and images, compared one by one. -/

theorem equalIntsC (l m : List Int) (hl : l.length ≤ 1000000) : Ev (fun k => laws_equalInts.f k l m) (decide (l = m)) := by
 unfold laws_equalInts.f
 by_cases hn : l.length = m.length
 ·have key := ev_up l.length (fun k i (_ : Unit) => laws_equalInts.l0 k l m (i : Int)) (fun _ _ => True) (fun i _ => decide (l.drop i = m.drop i))
   (by
    intro i s hi _
    have e1 := List.drop_eq_getElem_cons hi
    have e2 := List.drop_eq_getElem_cons (show i < m.length by omega)
    by_cases c : l[i] = m[i]'(by omega)
    ·refine .inr ⟨(), fun k => ?_, trivial, ?_⟩
     ·simp only [laws_equalInts.l0]
      rw [if_pos (by omega), if_pos (by omega), if_pos (by omega), rd_nat l i hi, rd_nat m i (by omega), if_pos c, w64n i (by omega)]
     ·rw [e1, e2, decide_eq_decide, List.cons.injEq]
      exact ⟨fun h => ⟨c, h⟩, fun h => h.2⟩
    ·left
     rw [e1, e2, decide_eq_false (by rw [List.cons.injEq]; exact fun h => c h.1)]
     refine Ev.step (f := fun _ => some false) (fun k => ?_) (Ev.now _)
     simp only [laws_equalInts.l0]
     rw [if_pos (by omega), if_pos (by omega), if_pos (by omega), rd_nat l i hi, rd_nat m i (by omega), if_neg c])
   (by
    intro s _
    refine Ev.step (f := fun _ => some true) (fun k => ?_) (ev_const (by rw [List.drop_length, hn, List.drop_length]; rfl))
    simp only [laws_equalInts.l0]
    rw [if_neg (by omega)])
   l.length 0 () (by omega) trivial
  exact ev_pos (by omega) (by simpa using key)
 ·refine ev_neg (by omega) ?_
  rw [decide_eq_false (fun h => hn (by rw [h]))]
  exact Ev.now _
theorem equalImage_ev (a b p : Int) (d : List Int) (a' b' p' : Int) (d' : List Int) (hl : d.length ≤ 1000000) : Ev (fun k => laws_equalImage.f k a b p d a' b' p' d') (decide (a = a' ∧ b = b' ∧ p = p' ∧ d = d')) := by
 unfold laws_equalImage.f
 by_cases c1 : a = a'
 ·refine ev_pos c1 ?_
  by_cases c2 : b = b'
  ·refine ev_pos c2 ?_
   by_cases c3 : p = p'
   ·refine ev_pos c3 ?_
    rw [decide_eq_decide.2 (show (a = a' ∧ b = b' ∧ p = p' ∧ d = d') ↔ d = d' from ⟨fun h => h.2.2.2, fun h => ⟨c1, c2, c3, h⟩⟩)]
    exact ev_bind (equalIntsC d d' hl) (Ev.now _)
   ·refine ev_neg c3 ?_
    rw [decide_eq_false (fun h => c3 h.2.2.1)]
    exact Ev.now _
  ·refine ev_neg c2 ?_
   rw [decide_eq_false (fun h => c2 h.2.1)]
   exact Ev.now _
 ·refine ev_neg c1 ?_
  rw [decide_eq_false (fun h => c1 h.1)]
  exact Ev.now _

/- A box that is drawn from bytes. -/

theorem anyBox_any (b : List Int) (pos : Int) (hB : Bytes b) (h0 : 0 ≤ pos) (h1 : pos ≤ 1000000) : ∃ (X Y W H : Int), Ev (fun k => spec_anyBox.f k b pos) (X, Y, W, H, pos + 1 + 1 + 1 + 1) := by
 obtain ⟨x0, g0, _⟩ := one_at b pos [0, 1, 2, (-1), 0, 4] (by simp) (by simp) hB (by omega) (by omega)
 obtain ⟨x1, g1, _⟩ := one_at b (pos + 1) [0, 1, 0, 2, (-1)] (by simp) (by simp) hB (by omega) (by omega)
 obtain ⟨x2, g2, _⟩ := one_at b (pos + 1 + 1) [1, 2, 3, 1, 0, 16] (by simp) (by simp) hB (by omega) (by omega)
 obtain ⟨x3, g3, _⟩ := one_at b (pos + 1 + 1 + 1) [1, 2, 1, 3, 0] (by simp) (by simp) hB (by omega) (by omega)
 refine ⟨x0, x1, x2, x3, ?_⟩
 unfold spec_anyBox.f
 exact ev_bind (ev_of 0 g0) (ev_bind (ev_of 0 g1) (ev_bind (ev_of 0 g2) (ev_bind (ev_of 0 g3) (Ev.now _))))

/- GapOf, as the program and the reference have it. -/

def gapTo (a b : List Int) : Nat → Int
 | 0 => 0
 | i + 1 => wrap64 (gapTo a b i + wrap64 (wrap64 (rd a i - rd b i) * wrap64 (rd a i - rd b i)))
def gapV (w h p : Int) (d : List Int) (w' h' p' : Int) (d' : List Int) : Int := if sameV w h p d w' h' p' d' = true then gapTo d d' d.length else -1
theorem impl_GapOf_ev (w h p : Int) (d : List Int) (w' h' p' : Int) (d' : List Int) (hl : d.length ≤ 1000000000000) : Ev (fun k => impl_GapOf.f k w h p d w' h' p' d') (gapV w h p d w' h' p' d') := by
 have hj : Ev (fun k => impl_GapOf.j0 k (!(sameV w h p d w' h' p' d')) w h p d w' h' p' d') (gapV w h p d w' h' p' d') := by
  unfold gapV
  by_cases c : sameV w h p d w' h' p' d' = true
  ·rw [if_pos c]
   have hn := same_len c
   have key := ev_up d.length (fun k i (s : Int) => impl_GapOf.l0 k s d (d.length : Int) (i : Int) w' h' p' d') (fun i s => s = gapTo d d' i) (fun _ _ => gapTo d d' d.length)
    (by
     intro i s hi hs
     right
     refine ⟨gapTo d d' (i + 1), fun k => ?_, rfl, rfl⟩
     simp only [impl_GapOf.l0]
     rw [if_pos (by omega), if_pos (by omega), if_pos (by omega), if_pos (by omega), w64n i (by omega), hs]
     rfl)
    (by
     intro s hs
     refine Ev.step (f := fun _ => some s) (fun k => ?_) (ev_const (by rw [hs]))
     simp only [impl_GapOf.l0]
     rw [if_neg (by omega)])
    d.length 0 0 (by omega) rfl
   refine Ev.step (fun k => ?_) key
   simp only [impl_GapOf.j0]
   rw [if_neg (by rw [c]; simp)]
   rfl
  ·rw [if_neg c]
   refine Ev.step (f := fun _ => some (-1)) (fun k => ?_) (Ev.now _)
   simp only [impl_GapOf.j0]
   rw [if_pos (by rw [Bool.eq_false_iff.2 c]; rfl)]
 unfold impl_GapOf.f
 refine ev_now (impl_isImage_eq w h p d) ?_
 by_cases c : validI w h p d = true
 ·refine ev_pos c (ev_now (impl_isImage_eq w' h' p' d') ?_)
  by_cases c' : validI w' h' p' d' = true
  ·refine ev_pos c' (ev_now (impl_alike_eq w h p d w' h' p' d') ?_)
   have e : sameV w h p d w' h' p' d' = decide (w = w' ∧ h = h' ∧ p = p') := by unfold sameV; rw [c, c', Bool.true_and, Bool.true_and]
   rw [e] at hj
   exact hj
  ·refine ev_neg c' ?_
   have e : sameV w h p d w' h' p' d' = false := by unfold sameV; rw [Bool.eq_false_iff.2 c', Bool.false_and, Bool.and_false]
   rw [e] at hj
   exact hj
 ·refine ev_neg c ?_
  have e : sameV w h p d w' h' p' d' = false := by unfold sameV; rw [Bool.eq_false_iff.2 c, Bool.false_and]
  rw [e] at hj
  exact hj
end Go.Proofs.Ytnofkbbcbpjhfaa.Pure

/- (impl.Image).at: the numbers of a pixel, in the memory of the image. -/
namespace Go.Proofs.Ytnofkbbcbpjhfaa.Q
open Go.RowKit Go.Proofs.YtnofkbbcbpjhfaaW.PrintWords Go.Proofs.YtnofkbbcbpjhfaaW.PrintLast Go.Proofs.YtnofkbbcbpjhfaaW.PrintMore
attribute [local go_sem] max2_int min2_int max_two min_two max_three min_three max_four min_four
set_option linter.unusedVariables false
set_option linter.unusedSimpArgs false
open Go.Proofs.Ytnofkbbcbpjhfaa.Pure

def pixT (d : List Int) (j p : Int) : List Int := (d.take (wrap64 (j + p) : Int).toNat).drop (j : Int).toNat
set_option maxHeartbeats 1600000 in
set_option maxRecDepth 100000 in
theorem at_callsX (a b p : Int) (A : Option Addr) (c n : Nat) (x y j : Int) (hc : n ≤ c) (hj : wrap64 ((wrap64 ((wrap64 (y * a)) + x)) * p) = j) (h0 : 0 ≤ j) (h1 : j ≤ wrap64 (j + p)) (h2 : wrap64 (j + p) ≤ (n : Int)) (A' : Option Addr) (hA : A' = if c = j.toNat then A else A.map (·.add (j.toNat * 1))) (w : World) :
  Calls Try.prog 109 #[.agg #[.int .i64 a, .int .i64 b, .int .i64 p, .slice A n c], .int .i64 x, .int .i64 y] w fun e w' => e = .returned (.slice A' ((wrap64 (j + p)).toNat - j.toNat) (c - j.toNat)) ∧ Below w.heap.size w w' := by
 obtain ⟨i0, hi0, _, hsz, _⟩ := info_parts info3
 have hcut := cut_mid (P := Try.prog) 22 3 .i64 .i64 Try.underlying22 hi0 1 hsz A n c j (wrap64 (j + p)) h0 h1 h2 hc
 rw [← hA] at hcut
 clear hA
 have hu := Try.underlying27
 have hjw : (IntKind.i64.wrap ((wrap64 ((wrap64 (y * a)) + x)) * p)) = j := (i64_w _).trans hj
 have d0 : decide (0 ≤ j) = true := decide_eq_true h0
 have d1 : decide (j ≤ wrap64 (j + p)) = true := decide_eq_true h1
 have d2 : decide (wrap64 (j + p) ≤ (n : Int)) = true := decide_eq_true h2
 have e0 := eq_true h0
 have e1 := eq_true h1
 have e2 := eq_true h2
 clear hi0 hsz hj
 go_enter Try.func109, Try.ntmps109
 go_wp2_with (first | ((with_reducible refine gate_dst (N := 3) rfl ?_); refine box_event ?hg (N := 3) ?hd (cs := #[.int .i64 a, .int .i64 b, .int .i64 p, .slice A n c]) (t := 27) ?hr ?_; (case hd => rfl); (case hg => rfl); (case hr => first | (go_simp; done) | (go_simp; rfl)); intro gb hg w9 hbox hb; have HB := Aside0.mk (below_step (Below.refl w.heap.size w) hb); have BK := Aside0.mk hbox; have hcz0 : w9.cell? ⟨gb, 0, none⟩ = some (.int .i64 a) := (blk_cell BK.out 0).trans rfl; have hcz1 : w9.cell? ⟨gb, 1, none⟩ = some (.int .i64 b) := (blk_cell BK.out 1).trans rfl; have hcz2 : w9.cell? ⟨gb, 2, none⟩ = some (.int .i64 p) := (blk_cell BK.out 2).trans rfl; have hcz3 : w9.cell? ⟨gb, 3, none⟩ = some (.slice A n c) := (blk_cell BK.out 3).trans rfl; clear hbox hb hg))
 go_ret
 exact ⟨rfl, HB.out⟩
theorem pixT_length (d : List Int) (j p : Int) (h2 : wrap64 (j + p) ≤ (d.length : Int)) : (pixT d j p).length = (wrap64 (j + p)).toNat - j.toNat := by
 unfold pixT
 rw [List.length_drop, List.length_take, Nat.min_eq_left (by omega)]
theorem pixT_C {w : World} {A : Option Addr} {c : Nat} {d : List Int} {j p : Int} (h : Kd.C (Kd.int .i64) w A d.length d) (hc : d.length ≤ c) (h1 : j ≤ wrap64 (j + p)) (h2 : wrap64 (j + p) ≤ (d.length : Int)) :
  Kd.C (Kd.int .i64) w (if c = j.toNat then A else A.map (·.add (j.toNat * 1))) (pixT d j p).length (pixT d j p) := Kd.C_mid h (by omega) (by omega) hc
theorem at_calls (a b p : Int) (A : Option Addr) (c : Nat) (d : List Int) (x y j : Int) (hc : d.length ≤ c) (hj : wrap64 ((wrap64 ((wrap64 (y * a)) + x)) * p) = j) (h0 : 0 ≤ j) (h1 : j ≤ wrap64 (j + p)) (h2 : wrap64 (j + p) ≤ (d.length : Int)) :
  ∃ (A' : Option Addr) (c' : Nat), (pixT d j p).length ≤ c' ∧ ∀ w : World, Kd.C (Kd.int .i64) w A d.length d → (Kd.C (Kd.int .i64) w A' (pixT d j p).length (pixT d j p) ∧
   Calls Try.prog 109 #[.agg #[.int .i64 a, .int .i64 b, .int .i64 p, .slice A d.length c], .int .i64 x, .int .i64 y] w fun e w' => e = .returned (.slice A' (pixT d j p).length c') ∧ Below w.heap.size w w') := by
 refine ⟨_, c - j.toNat, by rw [pixT_length d j p h2]; omega, fun w hr => ⟨pixT_C hr hc h1 h2, ?_⟩⟩
 rw [pixT_length d j p h2]
 exact at_callsX a b p A c d.length x y j hc hj h0 h1 h2 _ rfl w

/- Rows of bools that hold a grid: what is made, read and written. -/

theorem tabR_cell {W : World} {base g cap : Nat} {ok : Nat → Prop} {f : Nat → Bool} (h : Kd.bool.R 4 W base ok (.slice (some ⟨g, 0, none⟩) 256 cap) (tab f)) (i : Nat) (hi : i < 256) : W.cell? ⟨g, i, none⟩ = some (.bool (f i)) ∧ W.frozen? ⟨g, i, none⟩ = false := by
  have hl := tab_length f
  have h' : Kd.bool.R 4 W base ok (.slice (some ⟨g, 0, none⟩) (tab f).length cap) (tab f) := by rw [hl]; exact h
  have := Kd.R_cell false h' (i : Int) (by omega) (by omega)
  rw [Int.toNat_natCast, tab_get f i hi] at this
  exact this
theorem tabR_put {W : World} {base g cap : Nat} {ok : Nat → Prop} {f : Nat → Bool} (h : Kd.bool.R 4 W base ok (.slice (some ⟨g, 0, none⟩) 256 cap) (tab f)) (i : Nat) (b : Bool) : Kd.bool.R 4 (W.setCell ⟨g, i, none⟩ (.bool b)) base ok (.slice (some ⟨g, 0, none⟩) 256 cap) (tab fun p => if p = i then b else f p) := by
  have hl := tab_length f
  have h' : Kd.bool.R 4 W base ok (.slice (some ⟨g, 0, none⟩) (tab f).length cap) (tab f) := by rw [hl]; exact h
  have := (Kd.R_put h' (i : Int) b).1
  rw [Int.toNat_natCast, tab_set, hl] at this
  exact this
theorem tab_of (l : List Bool) (h : l.length = 256) : l = tab (fun p => l.getD p false) := by
  refine List.ext_getElem (by rw [tab_length]; exact h) (fun j h1 h2 => ?_)
  simp [tab, List.getD_eq_getElem?_getD, List.getElem?_eq_getElem h1]
theorem tabC_at {W : World} {A : Option Addr} {f : Nat → Bool} (h : Kd.bool.C W A 256 (tab f)) : ∃ ad, A = some ad ∧ ∀ i : Int, 0 ≤ i → i < 256 → W.cell? (ad.add i.toNat) = some (.bool (rdT f i)) := by
  obtain ⟨ad, rfl, _⟩ := Kd.at_bool h 0 (by omega) (by omega)
  refine ⟨ad, rfl, fun i h0 h1 => ?_⟩
  obtain ⟨ad', e, hc⟩ := Kd.at_bool h i h0 (by omega)
  cases e
  exact hc
end Go.Proofs.Ytnofkbbcbpjhfaa.Q
