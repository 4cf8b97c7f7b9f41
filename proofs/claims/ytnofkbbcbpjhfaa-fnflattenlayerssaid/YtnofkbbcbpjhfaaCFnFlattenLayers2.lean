/- A part of the proof that the statement FnFlattenLayersSaid holds, under no condition of its own: Layers cover one after the other: the law FnFlattenLayers over lists of numbers alone. -/
import Derived.Test.YtnofkbbcbpjhfaaCFnFlattenLayers1
namespace Go.Proofs.Ytnofkbbcbpjhfaa.Q
open Go.RowKit Go.Proofs.YtnofkbbcbpjhfaaW.PrintWords Go.Proofs.YtnofkbbcbpjhfaaW.PrintLast Go.Proofs.YtnofkbbcbpjhfaaW.PrintMore
open Go.Proofs.YtnofkbbcbpjhfaaW.PrintWords.Aside0 (mk)
attribute [local go_sem] max2_int min2_int max_two min_two max_three min_three max_four min_four
set_option linter.unusedVariables false
set_option linter.unusedSimpArgs false
def spec_copyImage.f (a0_0 : Int) (a0_1 : Int) (a0_2 : Int) (l0_3 : List Int) : Option (Int × Int × Int × List Int) := (spec_copyInts.f l0_3).bind fun t114003 => (some (a0_0, a0_1, a0_2, t114003))
def spec_copyImage.T1 : Bool × List (List Nat × List Nat) := (true, [([], []), ([0], [0]), ([], []), ([2], [2]), ([], []), ([4], [4]), ([], []), ([6], [6]), ([7], [7]), ([1, 3, 5, 8], [1, 3, 5, 8]), ([9, 8, 0, 1, 2, 3, 4, 5, 6, 7, 8, 9], [9])])
def spec_copyImage.B1 : List Nat := [0, 1, 0, 4, 0, 16, 0, 64, 192, 511, 1023]
theorem spec_copyImage.tab1 : rtab .any (opsOf Try.f113 1) = spec_copyImage.T1 := by kernel_rfl
theorem spec_copyImage.bits1 : waitsOk spec_copyImage.T1.2 spec_copyImage.B1 = true := by kernel_rfl
set_option maxHeartbeats 8000000 in
set_option maxRecDepth 100000 in
theorem spec_copyImage.calls (a0_0 : Int) (a0_1 : Int) (a0_2 : Int) (A0_3 : Option Addr) (c0_3 : Nat) (l0_3 : List Int) (r1 : Int) (r2 : Int) (r3 : Int) (r4 : List Int) (w : World) (hr0_3 : Kd.C (Kd.int .i64) w A0_3 l0_3.length l0_3) (hc0_3 : l0_3.length ≤ c0_3) (h : spec_copyImage.f a0_0 a0_1 a0_2 l0_3 = some (r1, r2, r3, r4)) :
  Calls Try.prog 113 #[.agg #[.int .i64 a0_0, .int .i64 a0_1, .int .i64 a0_2, .slice A0_3 l0_3.length c0_3]] w fun e w' => ∃ v3_ : Value, e = .returned (.agg #[.int .i64 r1, .int .i64 r2, .int .i64 r3, v3_]) ∧ Kd.R (Kd.int .i64) 3 w' w.heap.size (fun _ => True) v3_ r4 ∧ Below w.heap.size w w' := by
 have hu27 := Try.underlying27
 have HR0_3 := mk hr0_3
 have HC0_3 := mk hc0_3
 clear hr0_3 hc0_3
 have HB := mk (Below.refl w.heap.size w)
 have H : ((spec_copyInts.f l0_3).bind fun t114003 => (some (a0_0, a0_1, a0_2, t114003))) = some (r1, r2, r3, r4) := h
 clear h
 replace H := Option.bind_eq_some_iff.mp H
 obtain ⟨t114003, A20, H⟩ := H
 replace H : (some (a0_0, a0_1, a0_2, t114003)) = some (r1, r2, r3, r4) := H
 have A2 := mk A20
 clear A20
 simp only [Option.some.injEq, Prod.mk.injEq] at H
 obtain ⟨rfl, rfl, rfl, rfl⟩ := H
 go_enter Try.func113, Try.ntmps113
 try go_wp2_with (first | ((with_reducible refine gate_dst (N := 1) rfl ?_); refine box_event ?hg (N := 1) ?hd (cs := #[.int .i64 a0_0, .int .i64 a0_1, .int .i64 a0_2, .slice A0_3 l0_3.length c0_3]) (t := 27) ?hr ?_; (case hd => rfl); (case hg => rfl); (case hr => first | (go_simp; done) | (go_simp; rfl)); intro gb114001 hg w3 hbox hb; have n0_ := mk (below_step (by repeat (first | (with_reducible first | exact HB.out | apply below_alloc | apply pw_below_drewN | apply below_drew1) | exact HB.out)) hb); have n1_ := mk (hbox); have n2_ := mk ((by rw [hg]; exact (below_size (by repeat (first | (with_reducible first | exact HB.out | apply below_alloc | apply pw_below_drewN | apply below_drew1) | exact HB.out))) : w.heap.size ≤ gb114001)); have n3_ := mk ((by rw [hg]; exact (below_size (by repeat (first | (with_reducible first | exact HB.out | apply below_alloc | apply pw_below_drewN | apply below_drew1) | exact HB.out))) : w.heap.size ≤ gb114001)); clear HB; have HB := n0_; have BK114001 := n1_; have GW114001 := n2_; have GE114001 := n3_; clear n0_ n1_ n2_ n3_; clear hb hbox hg) | ((with_reducible refine gate_dst (N := 2) rfl ?_); refine box_event ?hg (N := 2) ?hd (cs := #[.int .i64 0, .int .i64 0, .int .i64 0, .slice none 0 0]) (t := 27) ?hr ?_; (case hd => rfl); (case hg => rfl); (case hr => first | (go_simp; done) | (go_simp; rfl)); intro gb114002 hg w4 hbox hb; have n0_ := mk (blk_below (g := gb114001) (o := .cells #[.int .i64 a0_0, .int .i64 a0_1, .int .i64 a0_2, .slice A0_3 l0_3.length c0_3] 27 (0, 0)) (by (with_reducible repeat (first | refine blk_drewN ?_ _ | refine blk_drew ?_ | refine blk_alloc ?_ _)); exact BK114001.out) hb); have n1_ := mk (below_step (by repeat (first | (with_reducible first | exact HB.out | apply below_alloc | apply pw_below_drewN | apply below_drew1 | refine below_set ?_ GE114001.out) | exact HB.out)) hb); have n2_ := mk (hbox); have n3_ := mk ((by rw [hg]; exact (below_size (by repeat (first | (with_reducible first | exact HB.out | apply below_alloc | apply pw_below_drewN | apply below_drew1 | refine below_set ?_ GE114001.out) | exact HB.out))) : w.heap.size ≤ gb114002)); have n4_ := mk ((by rw [hg]; exact (below_size (by repeat (first | (with_reducible first | exact HB.out | apply below_alloc | apply pw_below_drewN | apply below_drew1 | refine below_set ?_ GE114001.out) | exact HB.out))) : w.heap.size ≤ gb114002)); have n5_ := mk ((by rw [hg]; exact Nat.ne_of_lt (blk_lt (g := gb114001) (o := .cells #[.int .i64 a0_0, .int .i64 a0_1, .int .i64 a0_2, .slice A0_3 l0_3.length c0_3] 27 (0, 0)) (by (with_reducible repeat (first | refine blk_drewN ?_ _ | refine blk_drew ?_ | refine blk_alloc ?_ _)); exact BK114001.out)) : gb114001 ≠ gb114002)); have n6_ := mk ((by rw [hg]; exact Nat.ne_of_gt (blk_lt (g := gb114001) (o := .cells #[.int .i64 a0_0, .int .i64 a0_1, .int .i64 a0_2, .slice A0_3 l0_3.length c0_3] 27 (0, 0)) (by (with_reducible repeat (first | refine blk_drewN ?_ _ | refine blk_drew ?_ | refine blk_alloc ?_ _)); exact BK114001.out)) : gb114002 ≠ gb114001)); clear BK114001; clear HB; have BK114001 := n0_; have HB := n1_; have BK114002 := n2_; have GW114002 := n3_; have GE114002 := n4_; have NB114001_114002 := n5_; have NB114002_114001 := n6_; clear n0_ n1_ n2_ n3_ n4_ n5_ n6_; clear hb hbox hg))
 have n0_ := mk (blk_drew BK114001.out)
 have n1_ := mk (blk_drew BK114002.out)
 have n2_ := mk (below_drew1 HB.out)
 clear BK114001
 clear BK114002
 clear HB
 have BK114001 := n0_
 have BK114002 := n1_
 have HB := n2_
 clear n0_ n1_ n2_
 refine start_ (n := 11) (S := fun w' => w'.cell? ⟨gb114001, 0, none⟩ = some (.int .i64 a0_0) ∧ w'.cell? ⟨gb114001, 1, none⟩ = some (.int .i64 a0_1) ∧ w'.cell? ⟨gb114001, 2, none⟩ = some (.int .i64 a0_2) ∧ w'.cell? ⟨gb114001, 3, none⟩ = some (.slice A0_3 l0_3.length c0_3)) (ds := []) #[false, false, false, false, false, false, false, false, false, false, false] (by kernel_rfl) rfl rfl ⟨(blk_cell BK114001.out 0).trans rfl, (blk_cell BK114001.out 1).trans rfl, (blk_cell BK114001.out 2).trans rfl, (blk_cell BK114001.out 3).trans rfl⟩ (fun hHeld => ?_); refine with_tabW spec_copyImage.tab1 spec_copyImage.bits1 (fun HT_ HW_ => ?_)
 generalize w4.drew = w5 at BK114001 BK114002 HB hHeld ⊢
 refine pure_ (i := 0) (N := some 3) (v := ?_) (a' := ?_) #[true, false, false, false, false, false, false, false, false, false, false] rfl rfl (any_of HT_.out (by kernel_rfl)) (fun _ _ _ h => h) (Or.inl ⟨by rfl, ?_⟩) ?_ ?_
 rotate_left
 ·intro w'
  go_simp
  with_reducible rfl
 rotate_left
 ·simp only [Act.put, List.setIfInBounds_toArray, List.set_cons_zero, List.set_cons_succ, i64_w, i32_w]
  rfl
 refine pure_ (i := 2) (N := some 5) (v := ?_) (a' := ?_) #[true, false, true, false, false, false, false, false, false, false, false] rfl rfl (any_of HT_.out (by kernel_rfl)) (fun _ _ _ h => h) (Or.inl ⟨by rfl, ?_⟩) ?_ ?_
 rotate_left
 ·intro w'
  go_simp
  with_reducible rfl
 rotate_left
 ·simp only [Act.put, List.setIfInBounds_toArray, List.set_cons_zero, List.set_cons_succ, i64_w, i32_w]
  rfl
 refine pure_ (i := 4) (N := some 7) (v := ?_) (a' := ?_) #[true, false, true, false, true, false, false, false, false, false, false] rfl rfl (any_of HT_.out (by kernel_rfl)) (fun _ _ _ h => h) (Or.inl ⟨by rfl, ?_⟩) ?_ ?_
 rotate_left
 ·intro w'
  go_simp
  with_reducible rfl
 rotate_left
 ·simp only [Act.put, List.setIfInBounds_toArray, List.set_cons_zero, List.set_cons_succ, i64_w, i32_w]
  rfl
 refine pure_ (i := 6) (N := some 9) (v := ?_) (a' := ?_) #[true, false, true, false, true, false, true, false, false, false, false] rfl rfl (any_of HT_.out (by kernel_rfl)) (fun _ _ _ h => h) (Or.inl ⟨by rfl, ?_⟩) ?_ ?_
 rotate_left
 ·intro w'
  go_simp
  with_reducible rfl
 rotate_left
 ·simp only [Act.put, List.setIfInBounds_toArray, List.set_cons_zero, List.set_cons_succ, i64_w, i32_w]
  rfl
 refine take_ (i := 1) (N := some 4) (v := ?_) (a' := ?_) #[true, true, true, false, true, false, true, false, false, false, false] rfl rfl (take_ofW HT_.out HW_.out (by kernel_rfl)) (fun _ _ _ h => h) (Or.inl ⟨by rfl, ?_⟩) hHeld ?_ ?_
 rotate_left
 ·rintro w' ⟨s0, s1, s2, s3⟩
  go_simp
  with_reducible rfl
 rotate_left
 ·simp only [Act.put, List.setIfInBounds_toArray, List.set_cons_zero, List.set_cons_succ, i64_w, i32_w]
  rfl
 refine take_ (i := 3) (N := some 6) (v := ?_) (a' := ?_) #[true, true, true, true, true, false, true, false, false, false, false] rfl rfl (take_ofW HT_.out HW_.out (by kernel_rfl)) (fun _ _ _ h => h) (Or.inl ⟨by rfl, ?_⟩) hHeld ?_ ?_
 rotate_left
 ·rintro w' ⟨s0, s1, s2, s3⟩
  go_simp
  with_reducible rfl
 rotate_left
 ·simp only [Act.put, List.setIfInBounds_toArray, List.set_cons_zero, List.set_cons_succ, i64_w, i32_w]
  rfl
 refine take_ (i := 5) (N := some 8) (v := ?_) (a' := ?_) #[true, true, true, true, true, true, true, false, false, false, false] rfl rfl (take_ofW HT_.out HW_.out (by kernel_rfl)) (fun _ _ _ h => h) (Or.inl ⟨by rfl, ?_⟩) hHeld ?_ ?_
 rotate_left
 ·rintro w' ⟨s0, s1, s2, s3⟩
  go_simp
  with_reducible rfl
 rotate_left
 ·simp only [Act.put, List.setIfInBounds_toArray, List.set_cons_zero, List.set_cons_succ, i64_w, i32_w]
  rfl
 refine take_ (i := 7) (N := some 10) (v := ?_) (a' := ?_) #[true, true, true, true, true, true, true, true, false, false, false] rfl rfl (take_ofW HT_.out HW_.out (by kernel_rfl)) (fun _ _ _ h => h) (Or.inl ⟨by rfl, ?_⟩) hHeld ?_ ?_
 rotate_left
 ·rintro w' ⟨s0, s1, s2, s3⟩
  go_simp
  with_reducible rfl
 rotate_left
 ·simp only [Act.put, List.setIfInBounds_toArray, List.set_cons_zero, List.set_cons_succ, i64_w, i32_w]
  rfl
 refine one_ (i := 8) (N := some 11) #[true, true, true, true, true, true, true, true, true, false, false] rfl rfl (one_of HT_.out (by kernel_rfl)) (by decide) (fun K hK => ?_)
 refine goes_ Try.func129 (by kernel_rfl) rfl #[.slice A0_3 l0_3.length c0_3] (by rfl) rfl rfl (by (try simp only [List.map_toArray, List.map_cons, List.map_nil]); first | done | rfl | (simp only [List.length_drop, List.length_take]; rfl)) ?_
 with_reducible refine (spec_copyInts.calls _ _ l0_3 t114003 _ ?side1 ?side2 A2.out).mono ?_
 (case side1 => repeat (first | exact (Kd.C_below HR0_3.out HB.out) | (with_reducible refine Kd.C_alloc ?_ _) | (with_reducible refine Kd.C_drewN ?_ _) | (with_reducible refine Kd.C_drew ?_)))
 (case side2 => exact HC0_3.out)
 rintro e w6 ⟨v114004, rfl, ho0, hb⟩
 refine ⟨_, rfl, ?_⟩
 have n0_ := mk (Kd.R_lower ho0 (below_size (by repeat (first | (with_reducible first | exact HB.out | apply below_alloc | apply pw_below_drewN | apply below_drew1 | refine below_set ?_ GE114001.out | refine below_set ?_ GE114002.out) | exact HB.out))))
 have n1_ := mk (blk_below (g := gb114001) (o := .cells #[.int .i64 a0_0, .int .i64 a0_1, .int .i64 a0_2, .slice A0_3 l0_3.length c0_3] 27 (0, 0)) (by (with_reducible repeat (first | refine blk_drewN ?_ _ | refine blk_drew ?_ | refine blk_alloc ?_ _)); exact BK114001.out) hb)
 have n2_ := mk (blk_below (g := gb114002) (o := .cells #[.int .i64 0, .int .i64 0, .int .i64 0, .slice none 0 0] 27 (0, 0)) (by (with_reducible repeat (first | refine blk_drewN ?_ _ | refine blk_drew ?_ | refine blk_alloc ?_ _)); exact BK114002.out) hb)
 have n3_ := mk (below_step (by repeat (first | (with_reducible first | exact HB.out | apply below_alloc | apply pw_below_drewN | apply below_drew1 | refine below_set ?_ GE114001.out | refine below_set ?_ GE114002.out) | exact HB.out)) hb)
 clear BK114001
 clear BK114002
 clear HB
 have HO114005 := n0_
 have BK114001 := n1_
 have BK114002 := n2_
 have HB := n3_
 clear n0_ n1_ n2_ n3_
 (try clear hb)
 (try clear hb2)
 (try clear hk)
 (try clear hi)
 (try clear ho0)
 obtain ⟨Ao7, co7, eo7⟩ := Kd.R_slice HO114005.out
 (first | subst eo7 | (injection eo7 with f1_ f2_ f3_; have f4_ := f1_.symm; have f5_ := f3_.symm; clear f1_ f2_ f3_; subst f4_; subst f5_))
 refine hK.out _ _ ⟨(blk_cell BK114001.out 0).trans rfl, (blk_cell BK114001.out 1).trans rfl, (blk_cell BK114001.out 2).trans rfl, (blk_cell BK114001.out 3).trans rfl⟩ (fun hHeld => ?_)
 clear hK K
 refine norm_ (a' := ?_) ?_ ?_
 rotate_left
 ·show Act.put _ (some 11) _ = _
  simp only [Act.put, List.setIfInBounds_toArray, List.set_cons_zero, List.set_cons_succ, i64_w, i32_w]
  rfl
 refine pure_ (i := 9) (N := some 12) (v := ?_) (a' := ?_) #[true, true, true, true, true, true, true, true, true, true, false] rfl rfl (any_of HT_.out (by kernel_rfl)) (fun _ _ _ h => h) (Or.inl ⟨by rfl, ?_⟩) ?_ ?_
 rotate_left
 ·intro w'
  go_simp
  with_reducible rfl
 rotate_left
 ·simp only [Act.put, List.setIfInBounds_toArray, List.set_cons_zero, List.set_cons_succ, i64_w, i32_w]
  rfl
 refine one_ (i := 10) (N := none) #[true, true, true, true, true, true, true, true, true, true, true] rfl rfl (one_of HT_.out (by kernel_rfl)) (by decide) (fun K hK => ?_)
 have hs8 : w6.cell? ⟨gb114002, 0, none⟩ = some (.int .i64 0) := (blk_cell BK114002.out 0).trans rfl
 have hfs8 := blk_frozen BK114002.out 0
 have hns8_0 := NB114001_114002.out
 have hms8_0 := NB114002_114001.out
 have hs9 : w6.cell? ⟨gb114002, 1, none⟩ = some (.int .i64 0) := (blk_cell BK114002.out 1).trans rfl
 have hfs9 := blk_frozen BK114002.out 1
 have hns9_0 := NB114001_114002.out
 have hms9_0 := NB114002_114001.out
 have hs10 : w6.cell? ⟨gb114002, 2, none⟩ = some (.int .i64 0) := (blk_cell BK114002.out 2).trans rfl
 have hfs10 := blk_frozen BK114002.out 2
 have hns10_0 := NB114001_114002.out
 have hms10_0 := NB114002_114001.out
 have hs11 : w6.cell? ⟨gb114002, 3, none⟩ = some (.slice none 0 0) := (blk_cell BK114002.out 3).trans rfl
 have hfs11 := blk_frozen BK114002.out 3
 have hns11_0 := NB114001_114002.out
 have hms11_0 := NB114002_114001.out
 refine skip_ (w1 := ?_) (by rfl) rfl ?_ ?_
 rotate_left
 ·go_simp
  rfl
 refine hK.out _ _ ⟨((cell_far (p := ⟨gb114002, _, none⟩) NB114001_114002.out _).trans (((cell_far (p := ⟨gb114002, _, none⟩) NB114001_114002.out _).trans (((cell_far (p := ⟨gb114002, _, none⟩) NB114001_114002.out _).trans (((cell_far (p := ⟨gb114002, _, none⟩) NB114001_114002.out _).trans (hHeld.1)))))))), ((cell_far (p := ⟨gb114002, _, none⟩) NB114001_114002.out _).trans (((cell_far (p := ⟨gb114002, _, none⟩) NB114001_114002.out _).trans (((cell_far (p := ⟨gb114002, _, none⟩) NB114001_114002.out _).trans (((cell_far (p := ⟨gb114002, _, none⟩) NB114001_114002.out _).trans (hHeld.2.1)))))))), ((cell_far (p := ⟨gb114002, _, none⟩) NB114001_114002.out _).trans (((cell_far (p := ⟨gb114002, _, none⟩) NB114001_114002.out _).trans (((cell_far (p := ⟨gb114002, _, none⟩) NB114001_114002.out _).trans (((cell_far (p := ⟨gb114002, _, none⟩) NB114001_114002.out _).trans (hHeld.2.2.1)))))))), ((cell_far (p := ⟨gb114002, _, none⟩) NB114001_114002.out _).trans (((cell_far (p := ⟨gb114002, _, none⟩) NB114001_114002.out _).trans (((cell_far (p := ⟨gb114002, _, none⟩) NB114001_114002.out _).trans (((cell_far (p := ⟨gb114002, _, none⟩) NB114001_114002.out _).trans (hHeld.2.2.2))))))))⟩ (fun hHeld => ?_)
 clear hK K
 refine done_ (done_of HT_.out (by kernel_rfl)) ?_
 try go_wp2
 refine bodyPost_ret (results_cell_row rfl _ _ gb114002 27 #[.int .i64 a0_0, .int .i64 a0_1, .int .i64 a0_2, .slice Ao7 t114003.length co7] (0, 0) _ rfl (by (with_reducible repeat (first | refine blk_drewN ?_ _ | refine blk_drew ?_ | refine blk_alloc ?_ _)); refine blk_put (cs := #[.int .i64 a0_0, .int .i64 a0_1, .int .i64 a0_2, .slice none 0 0]) ?_ 3 _ rfl; (with_reducible repeat (first | refine blk_drewN ?_ _ | refine blk_drew ?_ | refine blk_alloc ?_ _)); refine blk_put (cs := #[.int .i64 a0_0, .int .i64 a0_1, .int .i64 0, .slice none 0 0]) ?_ 2 _ rfl; (with_reducible repeat (first | refine blk_drewN ?_ _ | refine blk_drew ?_ | refine blk_alloc ?_ _)); refine blk_put (cs := #[.int .i64 a0_0, .int .i64 0, .int .i64 0, .slice none 0 0]) ?_ 1 _ rfl; (with_reducible repeat (first | refine blk_drewN ?_ _ | refine blk_drew ?_ | refine blk_alloc ?_ _)); refine blk_put (cs := #[.int .i64 0, .int .i64 0, .int .i64 0, .slice none 0 0]) ?_ 0 _ rfl; (with_reducible repeat (first | refine blk_drewN ?_ _ | refine blk_drew ?_ | refine blk_alloc ?_ _)); exact BK114002.out) Try.underlying27 rfl (by kernel_rfl)) rfl ?_
 exact ⟨_, by first | rfl | (simp [errW_none, errW_some] <;> rfl) | (simp [*, errW_none, errW_some] <;> rfl), by (with_reducible repeat (first | apply Kd.R_alloc | apply Kd.R_drewN | apply Kd.R_drew)); exact Kd.R_mono (Kd.R_far (p := ⟨gb114002, 3, none⟩) (Kd.R_far (p := ⟨gb114002, 2, none⟩) (Kd.R_far (p := ⟨gb114002, 1, none⟩) (Kd.R_far (p := ⟨gb114002, 0, none⟩) (Kd.R_types HO114005.out BK114002.out (by decide)) (fun _ hk => hk.2) (.int .i64 a0_0)) (fun _ hk => hk.2) (.int .i64 a0_1)) (fun _ hk => hk.2) (.int .i64 a0_2)) (fun _ hk => hk.2) (.slice Ao7 t114003.length co7)) (fun _ hk => trivial), by repeat (first | (with_reducible first | exact HB.out | apply below_alloc | apply pw_below_drewN | apply below_drew1 | refine below_set ?_ GE114001.out | refine below_set ?_ GE114002.out) | exact HB.out)⟩


def spec_onImage.f (a0_0 : Int) (a0_1 : Int) (a0_2 : Int) (l0_3 : List Int) (a1 : Int) (a2 : Int) : Option (Bool) := (spec_inRange.f a1 0 (wrap64 (a0_0 - 1))).bind fun t145002 => (if t145002 = true then ((spec_inRange.f a2 0 (wrap64 (a0_1 - 1))).bind fun t145003 => (some t145003)) else (some false))
set_option maxHeartbeats 8000000 in
set_option maxRecDepth 100000 in
theorem spec_onImage.calls (a0_0 : Int) (a0_1 : Int) (a0_2 : Int) (A0_3 : Option Addr) (c0_3 : Nat) (l0_3 : List Int) (a1 : Int) (a2 : Int) (r : Bool) (w : World) (hr0_3 : Kd.C (Kd.int .i64) w A0_3 l0_3.length l0_3) (hc0_3 : l0_3.length ≤ c0_3) (h : spec_onImage.f a0_0 a0_1 a0_2 l0_3 a1 a2 = some r) :
  Calls Try.prog 144 #[.agg #[.int .i64 a0_0, .int .i64 a0_1, .int .i64 a0_2, .slice A0_3 l0_3.length c0_3], .int .i64 a1, .int .i64 a2] w fun e w' => e = .returned (.bool r) ∧ Below w.heap.size w w' := by
 have hu27 := Try.underlying27
 have HR0_3 := mk hr0_3
 have HC0_3 := mk hc0_3
 clear hr0_3 hc0_3
 have HB := mk (Below.refl w.heap.size w)
 have H : ((spec_inRange.f a1 0 (wrap64 (a0_0 - 1))).bind fun t145002 => (if t145002 = true then ((spec_inRange.f a2 0 (wrap64 (a0_1 - 1))).bind fun t145003 => (some t145003)) else (some false))) = some r := h
 clear h
 replace H := Option.bind_eq_some_iff.mp H
 obtain ⟨t145002, A40, H⟩ := H
 replace H : (if t145002 = true then ((spec_inRange.f a2 0 (wrap64 (a0_1 - 1))).bind fun t145003 => (some t145003)) else (some false)) = some r := H
 have A4 := mk A40
 clear A40
 by_cases c5 : t145002 = true
 ·subst c5
  have H1 : ((spec_inRange.f a2 0 (wrap64 (a0_1 - 1))).bind fun t145003 => (some t145003)) = some r := by rw [if_pos rfl] at H; exact H
  clear H
  have H := H1
  clear H1
  replace H := Option.bind_eq_some_iff.mp H
  obtain ⟨t145003, A60, H⟩ := H
  replace H : (some t145003) = some r := H
  have A6 := mk A60
  clear A60
  obtain rfl := Option.some.inj H
  go_enter Try.func144, Try.ntmps144
  go_wp2_with (first | ((with_reducible refine gate_dst (N := 3) rfl ?_); refine box_event ?hg (N := 3) ?hd (cs := #[.int .i64 a0_0, .int .i64 a0_1, .int .i64 a0_2, .slice A0_3 l0_3.length c0_3]) (t := 27) ?hr ?_; (case hd => rfl); (case hg => rfl); (case hr => first | (go_simp; done) | (go_simp; rfl)); intro gb145001 hg w7 hbox hb; have n0_ := mk (below_step (by repeat (first | (with_reducible first | exact HB.out | apply below_alloc | apply pw_below_drewN | apply below_drew1) | exact HB.out)) hb); have n1_ := mk (hbox); have n2_ := mk ((by rw [hg]; exact (below_size (by repeat (first | (with_reducible first | exact HB.out | apply below_alloc | apply pw_below_drewN | apply below_drew1) | exact HB.out))) : w.heap.size ≤ gb145001)); have n3_ := mk ((by rw [hg]; exact (below_size (by repeat (first | (with_reducible first | exact HB.out | apply below_alloc | apply pw_below_drewN | apply below_drew1) | exact HB.out))) : w.heap.size ≤ gb145001)); clear HB; have HB := n0_; have BK145001 := n1_; have GW145001 := n2_; have GE145001 := n3_; clear n0_ n1_ n2_ n3_; clear hb hbox hg; have hcz8_0 : w7.cell? ⟨gb145001, 0, none⟩ = some (.int .i64 a0_0) := (blk_cell BK145001.out 0).trans rfl; have hcz8_1 : w7.cell? ⟨gb145001, 1, none⟩ = some (.int .i64 a0_1) := (blk_cell BK145001.out 1).trans rfl; have hcz8_2 : w7.cell? ⟨gb145001, 2, none⟩ = some (.int .i64 a0_2) := (blk_cell BK145001.out 2).trans rfl; have hcz8_3 : w7.cell? ⟨gb145001, 3, none⟩ = some (.slice A0_3 l0_3.length c0_3) := (blk_cell BK145001.out 3).trans rfl; have hfz8_0 := blk_frozen BK145001.out 0; have hfz8_1 := blk_frozen BK145001.out 1; have hfz8_2 := blk_frozen BK145001.out 2; have hfz8_3 := blk_frozen BK145001.out 3) | ((with_reducible refine gate_callee (f := 110) rfl ?_); refine goesL_ (some 11) rfl rfl Try.func110 (by kernel_rfl) rfl #[.int .i64 a1, .int .i64 0, .int .i64 (wrap64 (a0_0 - 1))] rfl (by (try simp only [List.map_toArray, List.map_cons, List.map_nil]); first | done | rfl | (simp only [List.length_drop, List.length_take]; rfl)) ?_; (with_reducible refine (spec_inRange.calls a1 0 (wrap64 (a0_0 - 1)) true _ A4.out).mono ?_); rintro e w' ⟨rfl, ⟨nd, rfl⟩⟩; refine ⟨_, rfl, ?_⟩) | (go_at_call 110; (with_reducible refine (spec_inRange.calls a2 0 (wrap64 (a0_1 - 1)) t145003 _ A6.out).mono ?_); rintro e w' ⟨rfl, ⟨nd, rfl⟩⟩))
  go_ret
  exact ⟨by first | rfl | (simp [errW_none, errW_some] <;> rfl) | (simp [*, errW_none, errW_some] <;> rfl), by repeat (first | (with_reducible first | exact HB.out | apply below_alloc | apply pw_below_drewN | apply below_drew1 | refine below_set ?_ GE145001.out) | exact HB.out)⟩
 ·replace c5 := Bool.eq_false_iff.mpr c5
  subst c5
  have H1 : (some false) = some r := by rw [if_neg (show ¬ (false = true) by decide)] at H; exact H
  clear H
  have H := H1
  clear H1
  obtain rfl := Option.some.inj H
  go_enter Try.func144, Try.ntmps144
  go_wp2_with (first | ((with_reducible refine gate_dst (N := 3) rfl ?_); refine box_event ?hg (N := 3) ?hd (cs := #[.int .i64 a0_0, .int .i64 a0_1, .int .i64 a0_2, .slice A0_3 l0_3.length c0_3]) (t := 27) ?hr ?_; (case hd => rfl); (case hg => rfl); (case hr => first | (go_simp; done) | (go_simp; rfl)); intro gb145001 hg w9 hbox hb; have n0_ := mk (below_step (by repeat (first | (with_reducible first | exact HB.out | apply below_alloc | apply pw_below_drewN | apply below_drew1) | exact HB.out)) hb); have n1_ := mk (hbox); have n2_ := mk ((by rw [hg]; exact (below_size (by repeat (first | (with_reducible first | exact HB.out | apply below_alloc | apply pw_below_drewN | apply below_drew1) | exact HB.out))) : w.heap.size ≤ gb145001)); have n3_ := mk ((by rw [hg]; exact (below_size (by repeat (first | (with_reducible first | exact HB.out | apply below_alloc | apply pw_below_drewN | apply below_drew1) | exact HB.out))) : w.heap.size ≤ gb145001)); clear HB; have HB := n0_; have BK145001 := n1_; have GW145001 := n2_; have GE145001 := n3_; clear n0_ n1_ n2_ n3_; clear hb hbox hg; have hcz10_0 : w9.cell? ⟨gb145001, 0, none⟩ = some (.int .i64 a0_0) := (blk_cell BK145001.out 0).trans rfl; have hcz10_1 : w9.cell? ⟨gb145001, 1, none⟩ = some (.int .i64 a0_1) := (blk_cell BK145001.out 1).trans rfl; have hcz10_2 : w9.cell? ⟨gb145001, 2, none⟩ = some (.int .i64 a0_2) := (blk_cell BK145001.out 2).trans rfl; have hcz10_3 : w9.cell? ⟨gb145001, 3, none⟩ = some (.slice A0_3 l0_3.length c0_3) := (blk_cell BK145001.out 3).trans rfl; have hfz10_0 := blk_frozen BK145001.out 0; have hfz10_1 := blk_frozen BK145001.out 1; have hfz10_2 := blk_frozen BK145001.out 2; have hfz10_3 := blk_frozen BK145001.out 3) | ((with_reducible refine gate_callee (f := 110) rfl ?_); refine goesL_ (some 11) rfl rfl Try.func110 (by kernel_rfl) rfl #[.int .i64 a1, .int .i64 0, .int .i64 (wrap64 (a0_0 - 1))] rfl (by (try simp only [List.map_toArray, List.map_cons, List.map_nil]); first | done | rfl | (simp only [List.length_drop, List.length_take]; rfl)) ?_; (with_reducible refine (spec_inRange.calls a1 0 (wrap64 (a0_0 - 1)) false _ A4.out).mono ?_); rintro e w' ⟨rfl, ⟨nd, rfl⟩⟩; refine ⟨_, rfl, ?_⟩))
  go_ret
  exact ⟨by first | rfl | (simp [errW_none, errW_some] <;> rfl) | (simp [*, errW_none, errW_some] <;> rfl), by repeat (first | (with_reducible first | exact HB.out | apply below_alloc | apply pw_below_drewN | apply below_drew1 | refine below_set ?_ GE145001.out) | exact HB.out)⟩

end Go.Proofs.Ytnofkbbcbpjhfaa.Q

namespace Go.Proofs.Ytnofkbbcbpjhfaa.Q
open Go.RowKit Go.Proofs.YtnofkbbcbpjhfaaW.PrintWords Go.Proofs.YtnofkbbcbpjhfaaW.PrintLast Go.Proofs.YtnofkbbcbpjhfaaW.PrintMore
attribute [local go_sem] max2_int min2_int max_two min_two max_three min_three max_four min_four
set_option linter.unusedVariables false
set_option linter.unusedSimpArgs false
def spec_mix.f (a0 : Int) (a1 : Int) (a2 : Int) : Option (Int) := if a0 = 1 then (some (wrap64 (Int.tdiv (wrap64 ((wrap64 ((wrap64 (2 * a1)) * a2)) + 255)) 510))) else (if a0 = 2 then (some (wrap64 (255 - (wrap64 (Int.tdiv (wrap64 ((wrap64 ((wrap64 (2 * (wrap64 (255 - a1)))) * (wrap64 (255 - a2)))) + 255)) 510))))) else (if a0 = 3 then (some (mn a1 a2)) else (if a0 = 4 then (some (mx a1 a2)) else (some a2))))
set_option maxHeartbeats 8000000 in
set_option maxRecDepth 100000 in
theorem spec_mix.calls (a0 : Int) (a1 : Int) (a2 : Int) (r : Int) (w : World) (h : spec_mix.f a0 a1 a2 = some r) :
  Calls Try.prog 157 #[.int .i64 a0, .int .i64 a1, .int .i64 a2] w fun e w' => e = .returned (.int .i64 r) ∧ Below w.heap.size w w' := by
 have HB := Aside0.mk (Below.refl w.heap.size w)
 have H : (if a0 = 1 then (some (wrap64 (Int.tdiv (wrap64 ((wrap64 ((wrap64 (2 * a1)) * a2)) + 255)) 510))) else (if a0 = 2 then (some (wrap64 (255 - (wrap64 (Int.tdiv (wrap64 ((wrap64 ((wrap64 (2 * (wrap64 (255 - a1)))) * (wrap64 (255 - a2)))) + 255)) 510))))) else (if a0 = 3 then (some (mn a1 a2)) else (if a0 = 4 then (some (mx a1 a2)) else (some a2))))) = some r := h
 clear h
 by_cases c4 : a0 = 1
 ·rw [if_pos c4] at H
  have c4b0 : (a0 == 1) = true := beq_iff_eq.mpr c4
  have c4b1 : (a0 != 1) = false := bne_eq_false_iff_eq.mpr c4
  clear c4
  obtain rfl := Option.some.inj H
  go_enter Try.func157, Try.ntmps157
  go_wp2
  go_ret
  exact ⟨by first | rfl | (simp [errW_none, errW_some] <;> rfl) | (simp [*, errW_none, errW_some] <;> rfl), by repeat (first | (with_reducible first | exact HB.out | apply below_alloc | apply pw_below_drewN | apply below_drew1) | exact HB.out)⟩
 ·rw [if_neg c4] at H
  have c4b0 : (a0 == 1) = false := beq_eq_false_iff_ne.mpr c4
  have c4b1 : (a0 != 1) = true := bne_iff_ne.mpr c4
  by_cases c5 : a0 = 2
  ·rw [if_pos c5] at H
   have c5b0 : (a0 == 2) = true := beq_iff_eq.mpr c5
   have c5b1 : (a0 != 2) = false := bne_eq_false_iff_eq.mpr c5
   clear c5
   obtain rfl := Option.some.inj H
   go_enter Try.func157, Try.ntmps157
   go_wp2
   go_ret
   exact ⟨by first | rfl | (simp [errW_none, errW_some] <;> rfl) | (simp [*, errW_none, errW_some] <;> rfl), by repeat (first | (with_reducible first | exact HB.out | apply below_alloc | apply pw_below_drewN | apply below_drew1) | exact HB.out)⟩
  ·rw [if_neg c5] at H
   have c5b0 : (a0 == 2) = false := beq_eq_false_iff_ne.mpr c5
   have c5b1 : (a0 != 2) = true := bne_iff_ne.mpr c5
   by_cases c6 : a0 = 3
   ·rw [if_pos c6] at H
    have c6b0 : (a0 == 3) = true := beq_iff_eq.mpr c6
    have c6b1 : (a0 != 3) = false := bne_eq_false_iff_eq.mpr c6
    clear c6
    obtain ⟨ji7, hji7⟩ : ∃ j_ : Int, (mn a1 a2) = j_ := ⟨_, rfl⟩
    replace H : (some ji7) = some r := by first | (rw [hji7] at H; exact H) | (simp only [hji7] at H ⊢; exact H)
    have hji7_ : (if a2 < a1 then a2 else a1) = ji7 := hji7
    obtain rfl := Option.some.inj H
    go_enter Try.func157, Try.ntmps157
    go_wp2
    go_ret
    exact ⟨by first | rfl | (simp [errW_none, errW_some] <;> rfl) | (simp only [← hji7]; first | rfl | (simp [errW_none, errW_some] <;> rfl)) | (simp [*, errW_none, errW_some] <;> rfl), by repeat (first | (with_reducible first | exact HB.out | apply below_alloc | apply pw_below_drewN | apply below_drew1) | exact HB.out)⟩
   ·rw [if_neg c6] at H
    have c6b0 : (a0 == 3) = false := beq_eq_false_iff_ne.mpr c6
    have c6b1 : (a0 != 3) = true := bne_iff_ne.mpr c6
    by_cases c8 : a0 = 4
    ·rw [if_pos c8] at H
     have c8b0 : (a0 == 4) = true := beq_iff_eq.mpr c8
     have c8b1 : (a0 != 4) = false := bne_eq_false_iff_eq.mpr c8
     clear c8
     obtain ⟨ji9, hji9⟩ : ∃ j_ : Int, (mx a1 a2) = j_ := ⟨_, rfl⟩
     replace H : (some ji9) = some r := by first | (rw [hji9] at H; exact H) | (simp only [hji9] at H ⊢; exact H)
     have hji9_ : (if a1 < a2 then a2 else a1) = ji9 := hji9
     obtain rfl := Option.some.inj H
     go_enter Try.func157, Try.ntmps157
     go_wp2
     go_ret
     exact ⟨by first | rfl | (simp [errW_none, errW_some] <;> rfl) | (simp only [← hji9]; first | rfl | (simp [errW_none, errW_some] <;> rfl)) | (simp [*, errW_none, errW_some] <;> rfl), by repeat (first | (with_reducible first | exact HB.out | apply below_alloc | apply pw_below_drewN | apply below_drew1) | exact HB.out)⟩
    ·rw [if_neg c8] at H
     have c8b0 : (a0 == 4) = false := beq_eq_false_iff_ne.mpr c8
     have c8b1 : (a0 != 4) = true := bne_iff_ne.mpr c8
     obtain rfl := Option.some.inj H
     go_enter Try.func157, Try.ntmps157
     go_wp2
     go_ret
     exact ⟨by first | rfl | (simp [errW_none, errW_some] <;> rfl) | (simp [*, errW_none, errW_some] <;> rfl), by repeat (first | (with_reducible first | exact HB.out | apply below_alloc | apply pw_below_drewN | apply below_drew1) | exact HB.out)⟩


def spec_blend.f (a0 : Int) (a1 : Int) (a2 : Int) (a3 : Int) : Option (Int) := (spec_mix.f a0 a1 a2).bind fun t146001 => (some (wrap64 (Int.tdiv (wrap64 ((wrap64 (2 * (wrap64 ((wrap64 (a3 * t146001)) + (wrap64 ((wrap64 (255 - a3)) * a1)))))) + 255)) 510)))
set_option maxHeartbeats 8000000 in
set_option maxRecDepth 100000 in
theorem spec_blend.calls (a0 : Int) (a1 : Int) (a2 : Int) (a3 : Int) (r : Int) (w : World) (h : spec_blend.f a0 a1 a2 a3 = some r) :
  Calls Try.prog 145 #[.int .i64 a0, .int .i64 a1, .int .i64 a2, .int .i64 a3] w fun e w' => e = .returned (.int .i64 r) ∧ Below w.heap.size w w' := by
 have HB := Aside0.mk (Below.refl w.heap.size w)
 have H : ((spec_mix.f a0 a1 a2).bind fun t146001 => (some (wrap64 (Int.tdiv (wrap64 ((wrap64 (2 * (wrap64 ((wrap64 (a3 * t146001)) + (wrap64 ((wrap64 (255 - a3)) * a1)))))) + 255)) 510)))) = some r := h
 clear h
 replace H := Option.bind_eq_some_iff.mp H
 obtain ⟨t146001, A50, H⟩ := H
 replace H : (some (wrap64 (Int.tdiv (wrap64 ((wrap64 (2 * (wrap64 ((wrap64 (a3 * t146001)) + (wrap64 ((wrap64 (255 - a3)) * a1)))))) + 255)) 510))) = some r := H
 have A5 := Aside0.mk A50
 clear A50
 obtain rfl := Option.some.inj H
 go_enter Try.func145, Try.ntmps145
 go_wp2_with (first | ((with_reducible refine gate_callee (f := 157) rfl ?_); refine goesL_ (some 14) rfl rfl Try.func157 (by kernel_rfl) rfl #[.int .i64 a0, .int .i64 a1, .int .i64 a2] rfl (by (try simp only [List.map_toArray, List.map_cons, List.map_nil]); first | done | rfl | (simp only [List.length_drop, List.length_take]; rfl)) ?_; (with_reducible refine (spec_mix.calls a0 a1 a2 t146001 _ A5.out).mono ?_); rintro e w6 ⟨rfl, hb⟩; refine ⟨_, rfl, ?_⟩; have n0_ := Aside0.mk (below_step (by repeat (first | (with_reducible first | exact HB.out | apply below_alloc | apply pw_below_drewN | apply below_drew1) | exact HB.out)) hb); clear HB; have HB := n0_; clear n0_; (try clear hb); (try clear hb2); (try clear hk); (try clear hi)))
 go_ret
 exact ⟨by first | rfl | (simp [errW_none, errW_some] <;> rfl) | (simp [*, errW_none, errW_some] <;> rfl), by repeat (first | (with_reducible first | exact HB.out | apply below_alloc | apply pw_below_drewN | apply below_drew1) | exact HB.out)⟩

end Go.Proofs.Ytnofkbbcbpjhfaa.Q

namespace Go.Proofs.Ytnofkbbcbpjhfaa.Q
open Go.RowKit Go.Proofs.YtnofkbbcbpjhfaaW.PrintWords Go.Proofs.YtnofkbbcbpjhfaaW.PrintLast Go.Proofs.YtnofkbbcbpjhfaaW.PrintMore
open Go.Proofs.YtnofkbbcbpjhfaaW.PrintWords.Aside0 (mk)
attribute [local go_sem] max2_int min2_int max_two min_two max_three min_three max_four min_four
set_option linter.unusedVariables false
set_option linter.unusedSimpArgs false
mutual
def spec_blendPaste.l0 : Nat → Int → Int → Int → Int → List Int → Int → Int → Int → List Int → Int → Int → Int → Int → Bool → Option (List Int)
 | 0, _, _, _, _, _, _, _, _, _, _, _, _, _, _ => none
 | k + 1, x4, xz3, xz9, xz2, xz6, xz7, xz10, xz13, xz8, xz4, xz5, xz11, xz12, xz14 => if x4 < xz10 then (spec_blendPaste.l1 k x4 0 xz3 xz9 xz2 xz6 xz7 xz10 xz13 xz8 xz4 xz5 xz11 xz12 xz14) else (some xz6)
def spec_blendPaste.l1 : Nat → Int → Int → Int → Int → Int → List Int → Int → Int → Int → List Int → Int → Int → Int → Int → Bool → Option (List Int)
 | 0, _, _, _, _, _, _, _, _, _, _, _, _, _, _, _ => none
 | k + 1, x4, x5, xz3, xz9, xz2, xz6, xz7, xz10, xz13, xz8, xz4, xz5, xz11, xz12, xz14 => if x5 < xz7 then ((spec_onImage.f xz3 xz9 xz2 xz6 (wrap64 (xz4 + x5)) (wrap64 (xz5 + x4))).bind fun tz1 => (if tz1 = true then (spec_blendPaste.l2 k x4 x5 0 xz3 xz9 xz2 xz6 xz7 xz10 xz13 xz8 xz4 xz5 xz11 xz12 xz14) else (spec_blendPaste.l1 k x4 (wrap64 (x5 + 1)) xz3 xz9 xz2 xz6 xz7 xz10 xz13 xz8 xz4 xz5 xz11 xz12 xz14))) else (spec_blendPaste.l0 k (wrap64 (x4 + 1)) xz3 xz9 xz2 xz6 xz7 xz10 xz13 xz8 xz4 xz5 xz11 xz12 xz14)
def spec_blendPaste.l2 : Nat → Int → Int → Int → Int → Int → Int → List Int → Int → Int → Int → List Int → Int → Int → Int → Int → Bool → Option (List Int)
 | 0, _, _, _, _, _, _, _, _, _, _, _, _, _, _, _, _ => none
 | k + 1, x4, x5, x6, xz3, xz9, xz2, xz6, xz7, xz10, xz13, xz8, xz4, xz5, xz11, xz12, xz14 => if x6 < xz2 then (if 0 ≤ (wrap64 ((wrap64 ((wrap64 ((wrap64 ((wrap64 ((wrap64 (xz5 + x4)) * xz3)) + xz4)) + x5)) * xz2)) + x6)) then (if (wrap64 ((wrap64 ((wrap64 ((wrap64 ((wrap64 ((wrap64 (xz5 + x4)) * xz3)) + xz4)) + x5)) * xz2)) + x6)) < (xz6.length : Int) then (if 0 ≤ (wrap64 ((wrap64 ((wrap64 ((wrap64 (x4 * xz7)) + x5)) * xz2)) + x6)) then (if (wrap64 ((wrap64 ((wrap64 ((wrap64 (x4 * xz7)) + x5)) * xz2)) + x6)) < (xz8.length : Int) then ((spec_blend.f xz11 (rd xz6 (wrap64 ((wrap64 ((wrap64 ((wrap64 ((wrap64 ((wrap64 (xz5 + x4)) * xz3)) + xz4)) + x5)) * xz2)) + x6))) (rd xz8 (wrap64 ((wrap64 ((wrap64 ((wrap64 (x4 * xz7)) + x5)) * xz2)) + x6))) xz12).bind fun tz0 => (spec_blendPaste.l2 k x4 x5 (wrap64 (x6 + 1)) xz3 xz9 xz2 (xz6.set ((wrap64 ((wrap64 ((wrap64 ((wrap64 ((wrap64 ((wrap64 (xz5 + x4)) * xz3)) + xz4)) + x5)) * xz2)) + x6)) : Int).toNat tz0) xz7 xz10 xz13 xz8 xz4 xz5 xz11 xz12 xz14)) else none) else none) else none) else none) else (spec_blendPaste.l1 k x4 (wrap64 (x5 + 1)) xz3 xz9 xz2 xz6 xz7 xz10 xz13 xz8 xz4 xz5 xz11 xz12 xz14)
end
def spec_blendPaste.f (k : Nat) (a0_0 : Int) (a0_1 : Int) (a0_2 : Int) (l0_3 : List Int) (a1_0 : Int) (a1_1 : Int) (a1_2 : Int) (l1_3 : List Int) (a1_4 : Int) (a1_5 : Int) (a1_6 : Int) (a1_7 : Int) (a1_8 : Bool) : Option (List Int) := spec_blendPaste.l0 k 0 a0_0 a0_1 a0_2 l0_3 a1_0 a1_1 a1_2 l1_3 a1_4 a1_5 a1_6 a1_7 a1_8
theorem spec_blendPaste.mono_l : ∀ k, (∀ y0 y1 y2 y3 y4 y5 y6 y7 y8 y9 y10 y11 y12 y13, LeO (spec_blendPaste.l0 k y0 y1 y2 y3 y4 y5 y6 y7 y8 y9 y10 y11 y12 y13) (spec_blendPaste.l0 (k + 1) y0 y1 y2 y3 y4 y5 y6 y7 y8 y9 y10 y11 y12 y13)) ∧ (∀ y0 y1 y2 y3 y4 y5 y6 y7 y8 y9 y10 y11 y12 y13 y14, LeO (spec_blendPaste.l1 k y0 y1 y2 y3 y4 y5 y6 y7 y8 y9 y10 y11 y12 y13 y14) (spec_blendPaste.l1 (k + 1) y0 y1 y2 y3 y4 y5 y6 y7 y8 y9 y10 y11 y12 y13 y14)) ∧ (∀ y0 y1 y2 y3 y4 y5 y6 y7 y8 y9 y10 y11 y12 y13 y14 y15, LeO (spec_blendPaste.l2 k y0 y1 y2 y3 y4 y5 y6 y7 y8 y9 y10 y11 y12 y13 y14 y15) (spec_blendPaste.l2 (k + 1) y0 y1 y2 y3 y4 y5 y6 y7 y8 y9 y10 y11 y12 y13 y14 y15))
 | 0 => ⟨fun _ _ _ _ _ _ _ _ _ _ _ _ _ _ r h => by simp [spec_blendPaste.l0] at h, fun _ _ _ _ _ _ _ _ _ _ _ _ _ _ _ r h => by simp [spec_blendPaste.l1] at h, fun _ _ _ _ _ _ _ _ _ _ _ _ _ _ _ _ r h => by simp [spec_blendPaste.l2] at h⟩
 | k + 1 => by
  obtain ⟨ih0, ih1, ih2⟩ := spec_blendPaste.mono_l k
  refine ⟨?_, ?_, ?_⟩
  ·intro y0 y1 y2 y3 y4 y5 y6 y7 y8 y9 y10 y11 y12 y13
   unfold spec_blendPaste.l0
   repeat' first | (with_reducible exact ih1 _ _ _ _ _ _ _ _ _ _ _ _ _ _ _) | (with_reducible exact LeO.refl _) | (with_reducible refine LeO.ite ?_ ?_)
  ·intro y0 y1 y2 y3 y4 y5 y6 y7 y8 y9 y10 y11 y12 y13 y14
   unfold spec_blendPaste.l1
   repeat' first | (with_reducible exact ih0 _ _ _ _ _ _ _ _ _ _ _ _ _ _) | (with_reducible exact ih1 _ _ _ _ _ _ _ _ _ _ _ _ _ _ _) | (with_reducible exact ih2 _ _ _ _ _ _ _ _ _ _ _ _ _ _ _ _) | (with_reducible exact LeO.refl _) | (with_reducible refine LeO.ite ?_ ?_) | (with_reducible refine LeO.bind ?_ (fun _ => ?_))
  intro y0 y1 y2 y3 y4 y5 y6 y7 y8 y9 y10 y11 y12 y13 y14 y15
  unfold spec_blendPaste.l2
  repeat' first | (with_reducible exact ih1 _ _ _ _ _ _ _ _ _ _ _ _ _ _ _) | (with_reducible exact ih2 _ _ _ _ _ _ _ _ _ _ _ _ _ _ _ _) | (with_reducible exact LeO.refl _) | (with_reducible refine LeO.ite ?_ ?_) | (with_reducible refine LeO.bind ?_ (fun _ => ?_))
theorem spec_blendPaste.mono : ∀ a0 a1 a2 a3 a4 a5 a6 a7 a8 a9 a10 a11 a12 k, LeO (spec_blendPaste.f k a0 a1 a2 a3 a4 a5 a6 a7 a8 a9 a10 a11 a12) (spec_blendPaste.f (k + 1) a0 a1 a2 a3 a4 a5 a6 a7 a8 a9 a10 a11 a12) := by
 intro a0 a1 a2 a3 a4 a5 a6 a7 a8 a9 a10 a11 a12 k
 obtain ⟨ih0, ih1, ih2⟩ := spec_blendPaste.mono_l k
 unfold spec_blendPaste.f
 repeat' (with_reducible exact ih0 _ _ _ _ _ _ _ _ _ _ _ _ _ _)
def spec_blendPaste.T12 : Bool × List (List Nat × List Nat) := (true, [([], []), ([0], [0]), ([], []), ([], []), ([3], [3]), ([], []), ([5], [5]), ([], []), ([6, 7], [6, 7]), ([8], [8]), ([], []), ([10], [10]), ([11], [11]), ([], []), ([], []), ([14], [14]), ([15], [15]), ([13, 16], [13, 16]), ([], []), ([17, 18], [17, 18]), ([], []), ([20], [20]), ([19, 21], [19, 21]), ([], []), ([22, 23], [22, 23]), ([12, 24], [12, 24]), ([25], [25]), ([], []), ([27], [27]), ([4, 9, 26, 28], [4, 9, 26, 28]), ([1, 2, 0, 1, 2, 3, 4, 5, 6, 7, 8, 9, 10, 11, 12, 13, 14, 15, 16, 17, 18, 19, 20, 21, 22, 23, 24, 25, 26, 27, 28, 29], [1, 2]), ([30, 29, 29, 0, 1, 2, 3, 4, 5, 6, 7, 8, 9, 10, 11, 12, 13, 14, 15, 16, 17, 18, 19, 20, 21, 22, 23, 24, 25, 26, 27, 28, 29], [29, 30])])
def spec_blendPaste.B12 : List Nat := [0, 1, 0, 0, 8, 0, 32, 0, 224, 480, 0, 1024, 3072, 0, 0, 16384, 49152, 122880, 0, 516096, 0, 1048576, 4186112, 0, 16769024, 33553408, 67107840, 0, 134217728, 536870904, 1073741823, 2147483647]
theorem spec_blendPaste.tab12 : rtab .any (opsOf Try.f114 12) = spec_blendPaste.T12 := by kernel_rfl
theorem spec_blendPaste.bits12 : waitsOk spec_blendPaste.T12.2 spec_blendPaste.B12 = true := by kernel_rfl
set_option maxHeartbeats 8000000 in
set_option maxRecDepth 100000 in
theorem spec_blendPaste.calls (k : Nat) (a0_0 : Int) (a0_1 : Int) (a0_2 : Int) (P0_3_ : Nat → Prop) (u9000_ : Value) (l0_3 : List Int) (a1_0 : Int) (a1_1 : Int) (a1_2 : Int) (A1_3 : Option Addr) (c1_3 : Nat) (l1_3 : List Int) (a1_4 : Int) (a1_5 : Int) (a1_6 : Int) (a1_7 : Int) (a1_8 : Bool) (r : List Int) (w0 w : World) (hB : Below w0.heap.size w0 w) (ho0_3 : Kd.R (Kd.int .i64) 3 w w0.heap.size P0_3_ u9000_ l0_3) (hr1_3 : ∀ W_, Kept w W_ (fun k_ => P0_3_ k_) → Kd.C (Kd.int .i64) W_ A1_3 l1_3.length l1_3) (hc1_3 : l1_3.length ≤ c1_3) (h : spec_blendPaste.f k a0_0 a0_1 a0_2 l0_3 a1_0 a1_1 a1_2 l1_3 a1_4 a1_5 a1_6 a1_7 a1_8 = some r) :
  Calls Try.prog 114 #[.agg #[.int .i64 a0_0, .int .i64 a0_1, .int .i64 a0_2, u9000_], .agg #[.int .i64 a1_0, .int .i64 a1_1, .int .i64 a1_2, .slice A1_3 l1_3.length c1_3, .int .i64 a1_4, .int .i64 a1_5, .int .i64 a1_6, .int .i64 a1_7, .bool a1_8]] w fun e w' => e = .returned (.tuple #[]) ∧ Kd.R (Kd.int .i64) 3 w' w0.heap.size (fun k_ => (P0_3_ k_ ∨ w.heap.size ≤ k_)) u9000_ r ∧ Below w0.heap.size w0 w' ∧ Kept w w' (fun k_ => P0_3_ k_) := by
 have hu27 := Try.underlying27
 have hu55 := Try.underlying55
 have HO0_3 := mk (show Kd.R (Kd.int .i64) 3 w w0.heap.size (fun k_ => (P0_3_ k_ ∨ w.heap.size ≤ k_)) u9000_ l0_3 from Kd.R_mono ho0_3 (fun k_ hk => (.inl hk)))
 have HR1_3 := mk hr1_3
 have HC1_3 := mk hc1_3
 clear hr1_3 hc1_3
 have HK := mk (Kept.refl w (fun k_ => P0_3_ k_))
 have HW0 := mk hB.size
 have HB := mk hB
 clear hB
 have H : (spec_blendPaste.l0 k 0 a0_0 a0_1 a0_2 l0_3 a1_0 a1_1 a1_2 l1_3 a1_4 a1_5 a1_6 a1_7 a1_8) = some r := h
 clear h
 have H' := mk H
 clear H
 obtain ⟨Ao3, co3, eo3⟩ := Kd.R_slice HO0_3.out
 subst eo3
 go_enter Try.func114, Try.ntmps114
 go_wp2_with (first | ((with_reducible refine gate_dst (N := 2) rfl ?_); refine box_event (by rfl) (N := 2) (by rfl) (cs := #[.int .i64 a0_0, .int .i64 a0_1, .int .i64 a0_2, .slice Ao3 l0_3.length co3]) (t := 27) (by go_simp; done) ?_; intro gbz1 hg w4 hbox hb; have n0_ := mk (Kd.R_below HO0_3.out hb); have n1_ := mk (Kept.below (S := (fun k_ => P0_3_ k_)) HK.out hb); have n2_ := mk (below_step HB.out hb); have n3_ := mk (hbox); have n4_ := mk (by rw [hg]; exact HK.out.1 : w.heap.size ≤ gbz1); have n5_ := mk ((by rw [hg]; exact (below_size HB.out) : w0.heap.size ≤ gbz1)); clear HO0_3; clear HK; clear HB; have HO0_3 := n0_; have HK := n1_; have HB := n2_; have BKz1 := n3_; have GWz0 := n4_; have GEz0 := n5_; clear n0_ n1_ n2_ n3_ n4_ n5_; clear hb hbox hg) | ((with_reducible refine gate_dst (N := 3) rfl ?_); refine box_event (by rfl) (N := 3) (by rfl) (cs := #[.int .i64 a1_0, .int .i64 a1_1, .int .i64 a1_2, .slice A1_3 l1_3.length c1_3, .int .i64 a1_4, .int .i64 a1_5, .int .i64 a1_6, .int .i64 a1_7, .bool a1_8]) (t := 55) (by go_simp; done) ?_; intro gbz0 hg w5 hbox hb; have n0_ := mk (Kd.R_below HO0_3.out hb); have n1_ := mk (blk_below BKz1.out hb); have n2_ := mk (Kept.below (S := (fun k_ => P0_3_ k_)) HK.out hb); have n3_ := mk (below_step HB.out hb); have n4_ := mk (hbox); have n5_ := mk (by rw [hg]; exact HK.out.1 : w.heap.size ≤ gbz0); have n6_ := mk ((by rw [hg]; exact (below_size HB.out) : w0.heap.size ≤ gbz0)); have n7_ := mk ((by rw [hg]; exact Nat.ne_of_lt (blk_lt BKz1.out) : gbz1 ≠ gbz0)); have n8_ := mk ((by rw [hg]; exact Nat.ne_of_gt (blk_lt BKz1.out) : gbz0 ≠ gbz1)); clear HO0_3; clear BKz1; clear HK; clear HB; have HO0_3 := n0_; have BKz1 := n1_; have HK := n2_; have HB := n3_; have BKz0 := n4_; have GWz1 := n5_; have GEz1 := n6_; have NBz0 := n7_; have NBz1 := n8_; clear n0_ n1_ n2_ n3_ n4_ n5_ n6_ n7_ n8_; clear hb hbox hg))
 go_loopg [4] k (fun kq v4 w' => ∃ (x4_1 : Int) (xz15 : List Int), v4 = .int .i64 x4_1 ∧ Aside0 (spec_blendPaste.l0 kq x4_1 a0_0 a0_1 a0_2 xz15 a1_0 a1_1 a1_2 l1_3 a1_4 a1_5 a1_6 a1_7 a1_8 = some r) ∧ Aside0 (kq ≤ k) ∧ Aside0 (Kd.R (Kd.int .i64) 3 w' w0.heap.size (fun k_ => (P0_3_ k_ ∨ w.heap.size ≤ k_)) (.slice Ao3 l0_3.length co3) xz15) ∧ Aside0 (w'.heap[gbz1]? = some (.cells #[.int .i64 a0_0, .int .i64 a0_1, .int .i64 a0_2, (.slice Ao3 l0_3.length co3)] 27 (0, 0))) ∧ Aside0 (w'.heap[gbz0]? = some (.cells #[.int .i64 a1_0, .int .i64 a1_1, .int .i64 a1_2, (.slice A1_3 l1_3.length c1_3), .int .i64 a1_4, .int .i64 a1_5, .int .i64 a1_6, .int .i64 a1_7, .bool a1_8] 55 (0, 0))) ∧ Aside0 (Kept w w' (fun k_ => P0_3_ k_)) ∧ Aside0 (Below w0.heap.size w0 w'))
 case atStart => exact ⟨(0), (l0_3), (by rfl), H', ⟨Nat.le_refl _⟩, ⟨by (with_reducible repeat (first | apply Kd.R_alloc | apply Kd.R_drewN | apply Kd.R_drew)); exact HO0_3.out⟩, ⟨by (with_reducible repeat (first | refine blk_drewN ?_ _ | refine blk_drew ?_ | refine blk_alloc ?_ _)); exact BKz1.out⟩, ⟨by (with_reducible repeat (first | refine blk_drewN ?_ _ | refine blk_drew ?_ | refine blk_alloc ?_ _)); exact BKz0.out⟩, ⟨by exact HK.out⟩, ⟨by exact HB.out⟩⟩
 case round =>
  clear H'
  try clear c1
  try clear p2
  obtain ⟨x4_1, xz15, rfl, HA, HK1, HOz0, BKz1, BKz0, HK, HB⟩ := hrel
  have hl115002003_1 := (Kd.R_reads' HOz0.out).1
  rw [hl115002003_1] at HOz0
  (try simp only [hl115002003_1])
  (try simp only [hl115002003_1] at BKz1)
  cases gk with
  | zero => exact absurd HA.out (by simp [spec_blendPaste.l0])
  | succ k1 =>
   have H := HA.out
   clear HA
   simp only [spec_blendPaste.l0] at H
   by_cases c6 : x4_1 < a1_1
   ·rw [if_pos c6] at H
    have c6b0 : decide (x4_1 < a1_1) = true := decide_eq_true c6
    clear c6
    have H' := mk H
    clear H
    have hnb7 := NBz1.out
    have hnc7 := NBz0.out
    have hcz8_0 : wr.cell? ⟨gbz0, 0, none⟩ = some (.int .i64 a1_0) := (blk_cell BKz0.out 0).trans rfl
    have hcz8_1 : wr.cell? ⟨gbz0, 1, none⟩ = some (.int .i64 a1_1) := (blk_cell BKz0.out 1).trans rfl
    have hcz8_2 : wr.cell? ⟨gbz0, 2, none⟩ = some (.int .i64 a1_2) := (blk_cell BKz0.out 2).trans rfl
    have hcz8_3 : wr.cell? ⟨gbz0, 3, none⟩ = some (.slice A1_3 l1_3.length c1_3) := (blk_cell BKz0.out 3).trans rfl
    have hcz8_4 : wr.cell? ⟨gbz0, 4, none⟩ = some (.int .i64 a1_4) := (blk_cell BKz0.out 4).trans rfl
    have hcz8_5 : wr.cell? ⟨gbz0, 5, none⟩ = some (.int .i64 a1_5) := (blk_cell BKz0.out 5).trans rfl
    have hcz8_6 : wr.cell? ⟨gbz0, 6, none⟩ = some (.int .i64 a1_6) := (blk_cell BKz0.out 6).trans rfl
    have hcz8_7 : wr.cell? ⟨gbz0, 7, none⟩ = some (.int .i64 a1_7) := (blk_cell BKz0.out 7).trans rfl
    have hcz8_8 : wr.cell? ⟨gbz0, 8, none⟩ = some (.bool a1_8) := (blk_cell BKz0.out 8).trans rfl
    have hfz8_0 := blk_frozen BKz0.out 0
    have hfz8_1 := blk_frozen BKz0.out 1
    have hfz8_2 := blk_frozen BKz0.out 2
    have hfz8_3 := blk_frozen BKz0.out 3
    have hfz8_4 := blk_frozen BKz0.out 4
    have hfz8_5 := blk_frozen BKz0.out 5
    have hfz8_6 := blk_frozen BKz0.out 6
    have hfz8_7 := blk_frozen BKz0.out 7
    have hfz8_8 := blk_frozen BKz0.out 8
    go_wp2
    go_loopg [5] k1 (fun kq v5 w' => ∃ (x5_2 : Int) (xz1 : List Int), v5 = .int .i64 x5_2 ∧ Aside0 (spec_blendPaste.l1 kq x4_1 x5_2 a0_0 a0_1 a0_2 xz1 a1_0 a1_1 a1_2 l1_3 a1_4 a1_5 a1_6 a1_7 a1_8 = some r) ∧ Aside0 (kq ≤ k1) ∧ Aside0 (Kd.R (Kd.int .i64) 3 w' w0.heap.size (fun k_ => (P0_3_ k_ ∨ w.heap.size ≤ k_)) (.slice Ao3 xz15.length co3) xz1) ∧ Aside0 (w'.heap[gbz1]? = some (.cells #[.int .i64 a0_0, .int .i64 a0_1, .int .i64 a0_2, (.slice Ao3 xz15.length co3)] 27 (0, 0))) ∧ Aside0 (w'.heap[gbz0]? = some (.cells #[.int .i64 a1_0, .int .i64 a1_1, .int .i64 a1_2, (.slice A1_3 l1_3.length c1_3), .int .i64 a1_4, .int .i64 a1_5, .int .i64 a1_6, .int .i64 a1_7, .bool a1_8] 55 (0, 0))) ∧ Aside0 (Kept w w' (fun k_ => P0_3_ k_)) ∧ Aside0 (Below w0.heap.size w0 w'))
    case atStart => exact ⟨(0), (xz15), (by rfl), H', ⟨Nat.le_refl _⟩, ⟨by (with_reducible repeat (first | apply Kd.R_alloc | apply Kd.R_drewN | apply Kd.R_drew)); exact HOz0.out⟩, ⟨by (with_reducible repeat (first | refine blk_drewN ?_ _ | refine blk_drew ?_ | refine blk_alloc ?_ _)); exact BKz1.out⟩, ⟨by (with_reducible repeat (first | refine blk_drewN ?_ _ | refine blk_drew ?_ | refine blk_alloc ?_ _)); exact BKz0.out⟩, ⟨by exact HK.out⟩, ⟨by exact HB.out⟩⟩
    case round =>
     clear H'
     try clear c1
     try clear p2
     try clear c6
     try clear c6b0
     try clear c7
     try clear hcz8_0
     try clear hcz8_1
     try clear hcz8_2
     try clear hcz8_3
     try clear hcz8_4
     try clear hcz8_5
     try clear hcz8_6
     try clear hcz8_7
     try clear hcz8_8
     try clear hfz8_0
     try clear hfz8_1
     try clear hfz8_2
     try clear hfz8_3
     try clear hfz8_4
     try clear hfz8_5
     try clear hfz8_6
     try clear hfz8_7
     try clear hfz8_8
     try clear p2
     obtain ⟨x5_2, xz1, rfl, HA, HK2, HOz0, BKz1, BKz0, HK, HB⟩ := hrel
     have hl115002003_2 := (Kd.R_reads' HOz0.out).1
     rw [hl115002003_2] at HOz0
     (try simp only [hl115002003_2])
     (try simp only [hl115002003_2] at BKz1)
     cases gk with
     | zero => exact absurd HA.out (by simp [spec_blendPaste.l1])
     | succ k2 =>
      have H := HA.out
      clear HA
      simp only [spec_blendPaste.l1] at H
      by_cases c9 : x5_2 < a1_0
      ·rw [if_pos c9] at H
       have c9b0 : decide (x5_2 < a1_0) = true := decide_eq_true c9
       clear c9
       replace H := Option.bind_eq_some_iff.mp H
       obtain ⟨tz1, A100, H⟩ := H
       replace H : (if tz1 = true then (spec_blendPaste.l2 k2 x4_1 x5_2 0 a0_0 a0_1 a0_2 xz1 a1_0 a1_1 a1_2 l1_3 a1_4 a1_5 a1_6 a1_7 a1_8) else (spec_blendPaste.l1 k2 x4_1 (wrap64 (x5_2 + 1)) a0_0 a0_1 a0_2 xz1 a1_0 a1_1 a1_2 l1_3 a1_4 a1_5 a1_6 a1_7 a1_8)) = some r := H
       have A10 := mk A100
       clear A100
       by_cases c11 : tz1 = true
       ·subst c11
        have H1 : (spec_blendPaste.l2 k2 x4_1 x5_2 0 a0_0 a0_1 a0_2 xz1 a1_0 a1_1 a1_2 l1_3 a1_4 a1_5 a1_6 a1_7 a1_8) = some r := by rw [if_pos rfl] at H; exact H
        clear H
        have H := H1
        clear H1
        have H' := mk H
        clear H
        have hnb12 := NBz1.out
        have hnc12 := NBz0.out
        have hcz13_0 : wr.cell? ⟨gbz0, 0, none⟩ = some (.int .i64 a1_0) := (blk_cell BKz0.out 0).trans rfl
        have hcz13_1 : wr.cell? ⟨gbz0, 1, none⟩ = some (.int .i64 a1_1) := (blk_cell BKz0.out 1).trans rfl
        have hcz13_2 : wr.cell? ⟨gbz0, 2, none⟩ = some (.int .i64 a1_2) := (blk_cell BKz0.out 2).trans rfl
        have hcz13_3 : wr.cell? ⟨gbz0, 3, none⟩ = some (.slice A1_3 l1_3.length c1_3) := (blk_cell BKz0.out 3).trans rfl
        have hcz13_4 : wr.cell? ⟨gbz0, 4, none⟩ = some (.int .i64 a1_4) := (blk_cell BKz0.out 4).trans rfl
        have hcz13_5 : wr.cell? ⟨gbz0, 5, none⟩ = some (.int .i64 a1_5) := (blk_cell BKz0.out 5).trans rfl
        have hcz13_6 : wr.cell? ⟨gbz0, 6, none⟩ = some (.int .i64 a1_6) := (blk_cell BKz0.out 6).trans rfl
        have hcz13_7 : wr.cell? ⟨gbz0, 7, none⟩ = some (.int .i64 a1_7) := (blk_cell BKz0.out 7).trans rfl
        have hcz13_8 : wr.cell? ⟨gbz0, 8, none⟩ = some (.bool a1_8) := (blk_cell BKz0.out 8).trans rfl
        have hfz13_0 := blk_frozen BKz0.out 0
        have hfz13_1 := blk_frozen BKz0.out 1
        have hfz13_2 := blk_frozen BKz0.out 2
        have hfz13_3 := blk_frozen BKz0.out 3
        have hfz13_4 := blk_frozen BKz0.out 4
        have hfz13_5 := blk_frozen BKz0.out 5
        have hfz13_6 := blk_frozen BKz0.out 6
        have hfz13_7 := blk_frozen BKz0.out 7
        have hfz13_8 := blk_frozen BKz0.out 8
        have hcz14_0 : wr.cell? ⟨gbz1, 0, none⟩ = some (.int .i64 a0_0) := (blk_cell BKz1.out 0).trans rfl
        have hcz14_1 : wr.cell? ⟨gbz1, 1, none⟩ = some (.int .i64 a0_1) := (blk_cell BKz1.out 1).trans rfl
        have hcz14_2 : wr.cell? ⟨gbz1, 2, none⟩ = some (.int .i64 a0_2) := (blk_cell BKz1.out 2).trans rfl
        have hcz14_3 : wr.cell? ⟨gbz1, 3, none⟩ = some (.slice Ao3 xz1.length co3) := (blk_cell BKz1.out 3).trans rfl
        have hfz14_0 := blk_frozen BKz1.out 0
        have hfz14_1 := blk_frozen BKz1.out 1
        have hfz14_2 := blk_frozen BKz1.out 2
        have hfz14_3 := blk_frozen BKz1.out 3
        go_wp2_with (first | ((with_reducible refine gate_callee (f := 144) rfl ?_); refine goesL_ (some 31) rfl rfl Try.func144 (by kernel_rfl) rfl #[.agg #[.int .i64 a0_0, .int .i64 a0_1, .int .i64 a0_2, .slice Ao3 xz1.length co3], .int .i64 (wrap64 (a1_4 + x5_2)), .int .i64 (wrap64 (a1_5 + x4_1))] rfl (by (try simp only [List.map_toArray, List.map_cons, List.map_nil]); rfl) ?_; (with_reducible refine (spec_onImage.calls a0_0 a0_1 a0_2 _ _ xz1 (wrap64 (a1_4 + x5_2)) (wrap64 (a1_5 + x4_1)) true _ ?side1 ?side2 A10.out).mono ?_); (case side1 => repeat (exact (Kd.R_reads' HOz0.out).2.2)); (case side2 => exact (Kd.R_reads' HOz0.out).2.1); rintro e w15 ⟨rfl, hb⟩; refine ⟨_, rfl, ?_⟩; have n0_ := mk (Kd.R_below HOz0.out hb); have n1_ := mk (blk_below BKz1.out hb); have n2_ := mk (blk_below BKz0.out hb); have n3_ := mk (Kept.below (S := (fun k_ => P0_3_ k_)) HK.out hb); have n4_ := mk (below_step HB.out hb); clear HOz0; clear BKz1; clear BKz0; clear HK; clear HB; have HOz0 := n0_; have BKz1 := n1_; have BKz0 := n2_; have HK := n3_; have HB := n4_; clear n0_ n1_ n2_ n3_ n4_; (try clear hb)))
        go_loopg [6] k2 (fun kq v6 w' => ∃ (x6_3 : Int) (xz0 : List Int), v6 = .int .i64 x6_3 ∧ Aside0 (spec_blendPaste.l2 kq x4_1 x5_2 x6_3 a0_0 a0_1 a0_2 xz0 a1_0 a1_1 a1_2 l1_3 a1_4 a1_5 a1_6 a1_7 a1_8 = some r) ∧ Aside0 (kq ≤ k2) ∧ Aside0 (Kd.R (Kd.int .i64) 3 w' w0.heap.size (fun k_ => (P0_3_ k_ ∨ w.heap.size ≤ k_)) (.slice Ao3 xz1.length co3) xz0) ∧ Aside0 (w'.heap[gbz1]? = some (.cells #[.int .i64 a0_0, .int .i64 a0_1, .int .i64 a0_2, (.slice Ao3 xz1.length co3)] 27 (0, 0))) ∧ Aside0 (w'.heap[gbz0]? = some (.cells #[.int .i64 a1_0, .int .i64 a1_1, .int .i64 a1_2, (.slice A1_3 l1_3.length c1_3), .int .i64 a1_4, .int .i64 a1_5, .int .i64 a1_6, .int .i64 a1_7, .bool a1_8] 55 (0, 0))) ∧ Aside0 (Kept w w' (fun k_ => P0_3_ k_)) ∧ Aside0 (Below w0.heap.size w0 w'))
        case atStart => exact ⟨(0), (xz1), (by rfl), H', ⟨Nat.le_refl _⟩, ⟨by (with_reducible repeat (first | apply Kd.R_alloc | apply Kd.R_drewN | apply Kd.R_drew)); exact HOz0.out⟩, ⟨by (with_reducible repeat (first | refine blk_drewN ?_ _ | refine blk_drew ?_ | refine blk_alloc ?_ _)); exact BKz1.out⟩, ⟨by (with_reducible repeat (first | refine blk_drewN ?_ _ | refine blk_drew ?_ | refine blk_alloc ?_ _)); exact BKz0.out⟩, ⟨by exact HK.out⟩, ⟨by exact HB.out⟩⟩
        case round =>
         clear H'
         try clear c1
         try clear p2
         try clear c6
         try clear c6b0
         try clear p6
         try clear c7
         try clear c9
         try clear c9b0
         try clear c11
         try clear c12
         try clear c14
         try clear hcz13_0
         try clear hcz13_1
         try clear hcz13_2
         try clear hcz13_3
         try clear hcz13_4
         try clear hcz13_5
         try clear hcz13_6
         try clear hcz13_7
         try clear hcz13_8
         try clear hcz14_0
         try clear hcz14_1
         try clear hcz14_2
         try clear hcz14_3
         try clear hcz8_0
         try clear hcz8_1
         try clear hcz8_2
         try clear hcz8_3
         try clear hcz8_4
         try clear hcz8_5
         try clear hcz8_6
         try clear hcz8_7
         try clear hcz8_8
         try clear hfz13_0
         try clear hfz13_1
         try clear hfz13_2
         try clear hfz13_3
         try clear hfz13_4
         try clear hfz13_5
         try clear hfz13_6
         try clear hfz13_7
         try clear hfz13_8
         try clear hfz14_0
         try clear hfz14_1
         try clear hfz14_2
         try clear hfz14_3
         try clear hfz8_0
         try clear hfz8_1
         try clear hfz8_2
         try clear hfz8_3
         try clear hfz8_4
         try clear hfz8_5
         try clear hfz8_6
         try clear hfz8_7
         try clear hfz8_8
         try clear p2
         obtain ⟨x6_3, xz0, rfl, HA, HK3, HOz0, BKz1, BKz0, HK, HB⟩ := hrel
         have hl115002003_3 := (Kd.R_reads' HOz0.out).1
         rw [hl115002003_3] at HOz0
         (try simp only [hl115002003_3])
         (try simp only [hl115002003_3] at BKz1)
         cases gk with
         | zero => exact absurd HA.out (by simp [spec_blendPaste.l2])
         | succ k3 =>
          have H := HA.out
          clear HA
          simp only [spec_blendPaste.l2] at H
          by_cases c16 : x6_3 < a0_2
          ·rw [if_pos c16] at H
           have c16b0 : decide (x6_3 < a0_2) = true := decide_eq_true c16
           clear c16
           obtain ⟨ji17, hji17⟩ : ∃ j_ : Int, (wrap64 ((wrap64 ((wrap64 ((wrap64 ((wrap64 ((wrap64 (a1_5 + x4_1)) * a0_0)) + a1_4)) + x5_2)) * a0_2)) + x6_3)) = j_ := ⟨_, rfl⟩
           replace H : (if 0 ≤ ji17 then (if ji17 < (xz0.length : Int) then (if 0 ≤ (wrap64 ((wrap64 ((wrap64 ((wrap64 (x4_1 * a1_0)) + x5_2)) * a0_2)) + x6_3)) then (if (wrap64 ((wrap64 ((wrap64 ((wrap64 (x4_1 * a1_0)) + x5_2)) * a0_2)) + x6_3)) < (l1_3.length : Int) then ((spec_blend.f a1_6 (rd xz0 ji17) (rd l1_3 (wrap64 ((wrap64 ((wrap64 ((wrap64 (x4_1 * a1_0)) + x5_2)) * a0_2)) + x6_3))) a1_7).bind fun tz0 => (spec_blendPaste.l2 k3 x4_1 x5_2 (wrap64 (x6_3 + 1)) a0_0 a0_1 a0_2 (xz0.set (ji17 : Int).toNat tz0) a1_0 a1_1 a1_2 l1_3 a1_4 a1_5 a1_6 a1_7 a1_8)) else none) else none) else none) else none) = some r := by (rw [hji17] at H; exact H)
           have hji17w : (IntKind.i64.wrap ((wrap64 ((wrap64 ((wrap64 ((wrap64 ((wrap64 (a1_5 + x4_1)) * a0_0)) + a1_4)) + x5_2)) * a0_2)) + x6_3)) = ji17 := (i64_w _).trans hji17
           by_cases c18 : 0 ≤ (ji17)
           ·rw [if_pos c18] at H
            have c18b0 : decide (0 ≤ ji17) = true := decide_eq_true c18
            clear c18
            by_cases c19 : ji17 < (xz0.length : Int)
            ·rw [if_pos c19] at H
             have c19b0 : decide (ji17 < (xz0.length : Int)) = true := decide_eq_true c19
             clear c19
             obtain ⟨ji20, hji20⟩ : ∃ j_ : Int, (wrap64 ((wrap64 ((wrap64 ((wrap64 (x4_1 * a1_0)) + x5_2)) * a0_2)) + x6_3)) = j_ := ⟨_, rfl⟩
             replace H : (if 0 ≤ ji20 then (if ji20 < (l1_3.length : Int) then ((spec_blend.f a1_6 (rd xz0 ji17) (rd l1_3 ji20) a1_7).bind fun tz0 => (spec_blendPaste.l2 k3 x4_1 x5_2 (wrap64 (x6_3 + 1)) a0_0 a0_1 a0_2 (xz0.set (ji17 : Int).toNat tz0) a1_0 a1_1 a1_2 l1_3 a1_4 a1_5 a1_6 a1_7 a1_8)) else none) else none) = some r := by (rw [hji20] at H; exact H)
             have hji20w : (IntKind.i64.wrap ((wrap64 ((wrap64 ((wrap64 (x4_1 * a1_0)) + x5_2)) * a0_2)) + x6_3)) = ji20 := (i64_w _).trans hji20
             by_cases c21 : 0 ≤ (ji20)
             ·rw [if_pos c21] at H
              have c21b0 : decide (0 ≤ ji20) = true := decide_eq_true c21
              clear c21
              by_cases c22 : ji20 < (l1_3.length : Int)
              ·rw [if_pos c22] at H
               have c22b0 : decide (ji20 < (l1_3.length : Int)) = true := decide_eq_true c22
               clear c22
               replace H := Option.bind_eq_some_iff.mp H
               obtain ⟨tz0, A230, H⟩ := H
               replace H : (spec_blendPaste.l2 k3 x4_1 x5_2 (wrap64 (x6_3 + 1)) a0_0 a0_1 a0_2 (xz0.set (ji17 : Int).toNat tz0) a1_0 a1_1 a1_2 l1_3 a1_4 a1_5 a1_6 a1_7 a1_8) = some r := H
               have A23 := mk A230
               clear A230
               obtain ⟨yz0, hyz0⟩ : ∃ y_ : List Int, y_ = (xz0.set (ji17 : Int).toNat tz0) := ⟨_, rfl⟩
               replace H : (spec_blendPaste.l2 k3 x4_1 x5_2 (wrap64 (x6_3 + 1)) a0_0 a0_1 a0_2 yz0 a1_0 a1_1 a1_2 l1_3 a1_4 a1_5 a1_6 a1_7 a1_8) = some r := by (rw [hyz0]; with_reducible exact H)
               have Nyz0 := mk hyz0
               clear hyz0
               have H' := mk H
               clear H
               have hnb25 := NBz0.out
               have hnc25 := NBz1.out
               have hcz26_0 : wr.cell? ⟨gbz1, 0, none⟩ = some (.int .i64 a0_0) := (blk_cell BKz1.out 0).trans rfl
               have hcz26_1 : wr.cell? ⟨gbz1, 1, none⟩ = some (.int .i64 a0_1) := (blk_cell BKz1.out 1).trans rfl
               have hcz26_2 : wr.cell? ⟨gbz1, 2, none⟩ = some (.int .i64 a0_2) := (blk_cell BKz1.out 2).trans rfl
               have hcz26_3 : wr.cell? ⟨gbz1, 3, none⟩ = some (.slice Ao3 xz0.length co3) := (blk_cell BKz1.out 3).trans rfl
               have hfz26_0 := blk_frozen BKz1.out 0
               have hfz26_1 := blk_frozen BKz1.out 1
               have hfz26_2 := blk_frozen BKz1.out 2
               have hfz26_3 := blk_frozen BKz1.out 3
               have hcz27_0 : wr.cell? ⟨gbz0, 0, none⟩ = some (.int .i64 a1_0) := (blk_cell BKz0.out 0).trans rfl
               have hcz27_1 : wr.cell? ⟨gbz0, 1, none⟩ = some (.int .i64 a1_1) := (blk_cell BKz0.out 1).trans rfl
               have hcz27_2 : wr.cell? ⟨gbz0, 2, none⟩ = some (.int .i64 a1_2) := (blk_cell BKz0.out 2).trans rfl
               have hcz27_3 : wr.cell? ⟨gbz0, 3, none⟩ = some (.slice A1_3 l1_3.length c1_3) := (blk_cell BKz0.out 3).trans rfl
               have hcz27_4 : wr.cell? ⟨gbz0, 4, none⟩ = some (.int .i64 a1_4) := (blk_cell BKz0.out 4).trans rfl
               have hcz27_5 : wr.cell? ⟨gbz0, 5, none⟩ = some (.int .i64 a1_5) := (blk_cell BKz0.out 5).trans rfl
               have hcz27_6 : wr.cell? ⟨gbz0, 6, none⟩ = some (.int .i64 a1_6) := (blk_cell BKz0.out 6).trans rfl
               have hcz27_7 : wr.cell? ⟨gbz0, 7, none⟩ = some (.int .i64 a1_7) := (blk_cell BKz0.out 7).trans rfl
               have hcz27_8 : wr.cell? ⟨gbz0, 8, none⟩ = some (.bool a1_8) := (blk_cell BKz0.out 8).trans rfl
               have hfz27_0 := blk_frozen BKz0.out 0
               have hfz27_1 := blk_frozen BKz0.out 1
               have hfz27_2 := blk_frozen BKz0.out 2
               have hfz27_3 := blk_frozen BKz0.out 3
               have hfz27_4 := blk_frozen BKz0.out 4
               have hfz27_5 := blk_frozen BKz0.out 5
               have hfz27_6 := blk_frozen BKz0.out 6
               have hfz27_7 := blk_frozen BKz0.out 7
               have hfz27_8 := blk_frozen BKz0.out 8
               try go_wp2
               have n0_ := mk (Kd.R_drew HOz0.out)
               have n1_ := mk (blk_drew BKz1.out)
               have n2_ := mk (blk_drew BKz0.out)
               have n3_ := mk (Kept.drew HK.out)
               have n4_ := mk (below_drew1 HB.out)
               clear HOz0 BKz1 BKz0 HK HB
               revert n0_ n1_ n2_ n3_ n4_; intro HOz0 BKz1 BKz0 HK HB
               have p115004 : 0 ≤ (ji17 : Int) := of_decide_eq_true (by (with_reducible assumption))
               have q115004 : ji17 < (xz0.length : Int) := of_decide_eq_true (by (with_reducible assumption))
               obtain ⟨ad115004, e115004, hx115004_0⟩ := Kd.at_int (Kd.R_reads' HOz0.out).2.2 ji17 p115004 q115004
               cases e115004
               replace p115004 := eq_true p115004
               replace q115004 := eq_true q115004
               have p115005 : 0 ≤ (ji20 : Int) := of_decide_eq_true (by (with_reducible assumption))
               have q115005 : ji20 < (l1_3.length : Int) := of_decide_eq_true (by (with_reducible assumption))
               obtain ⟨ad115005, e115005, hx115005_0⟩ := Kd.at_int (Kd.C_kept_now HR1_3.out HK.out) ji20 p115005 q115005
               have hw115005_0 := hx115005_0
               cases e115005
               replace p115005 := eq_true p115005
               replace q115005 := eq_true q115005
               refine start_ (n := 32) (S := fun w' => w'.cell? ⟨gbz1, 0, none⟩ = some (.int .i64 a0_0) ∧ w'.cell? ⟨gbz1, 1, none⟩ = some (.int .i64 a0_1) ∧ w'.cell? ⟨gbz1, 2, none⟩ = some (.int .i64 a0_2) ∧ w'.cell? ⟨gbz1, 3, none⟩ = some (.slice (some ad115004) xz0.length co3) ∧ w'.cell? ⟨gbz0, 0, none⟩ = some (.int .i64 a1_0) ∧ w'.cell? ⟨gbz0, 1, none⟩ = some (.int .i64 a1_1) ∧ w'.cell? ⟨gbz0, 2, none⟩ = some (.int .i64 a1_2) ∧ w'.cell? ⟨gbz0, 3, none⟩ = some (.slice (some ad115005) l1_3.length c1_3) ∧ w'.cell? ⟨gbz0, 4, none⟩ = some (.int .i64 a1_4) ∧ w'.cell? ⟨gbz0, 5, none⟩ = some (.int .i64 a1_5) ∧ w'.cell? ⟨gbz0, 6, none⟩ = some (.int .i64 a1_6) ∧ w'.cell? ⟨gbz0, 7, none⟩ = some (.int .i64 a1_7) ∧ w'.cell? ⟨gbz0, 8, none⟩ = some (.bool a1_8) ∧ w'.cell? (ad115004.add (ji17).toNat) = some (.int .i64 (rd xz0 ji17)) ∧ w'.cell? (ad115005.add (ji20).toNat) = some (.int .i64 (rd l1_3 ji20))) (ds := [31]) #[false, false, false, false, false, false, false, false, false, false, false, false, false, false, false, false, false, false, false, false, false, false, false, false, false, false, false, false, false, false, false, false] (by kernel_rfl) rfl rfl ⟨(blk_cell BKz1.out 0).trans rfl, (blk_cell BKz1.out 1).trans rfl, (blk_cell BKz1.out 2).trans rfl, (blk_cell BKz1.out 3).trans rfl, (blk_cell BKz0.out 0).trans rfl, (blk_cell BKz0.out 1).trans rfl, (blk_cell BKz0.out 2).trans rfl, (blk_cell BKz0.out 3).trans rfl, (blk_cell BKz0.out 4).trans rfl, (blk_cell BKz0.out 5).trans rfl, (blk_cell BKz0.out 6).trans rfl, (blk_cell BKz0.out 7).trans rfl, (blk_cell BKz0.out 8).trans rfl, hx115004_0, (Kd.foot_int (HR1_3.out _ HK.out) ji20 (of_eq_true p115005) (of_eq_true q115005))⟩ (fun hHeld => ?_); refine with_tabW spec_blendPaste.tab12 spec_blendPaste.bits12 (fun HT_ HW_ => ?_)
               generalize wr.drew = w28 at HOz0 BKz1 BKz0 HK HB hx115004_0 hx115005_0 hHeld ⊢
               refine pure_ (i := 0) (N := some 56) (v := ?_) (a' := ?_) #[true, false, false, false, false, false, false, false, false, false, false, false, false, false, false, false, false, false, false, false, false, false, false, false, false, false, false, false, false, false, false, false] rfl rfl (any_of HT_.out (by kernel_rfl)) (fun _ _ _ h => h) (Or.inl ⟨by rfl, ?_⟩) ?_ ?_
               rotate_left
               ·intro w'
                go_simp
                with_reducible rfl
               rotate_left
               ·simp only [Act.put, List.setIfInBounds_toArray, List.set_cons_zero, List.set_cons_succ, i64_w, i32_w]
                rfl
               refine pure_ (i := 2) (N := some 58) (v := ?_) (a' := ?_) #[true, false, true, false, false, false, false, false, false, false, false, false, false, false, false, false, false, false, false, false, false, false, false, false, false, false, false, false, false, false, false, false] rfl rfl (any_of HT_.out (by kernel_rfl)) (fun _ _ _ h => h) (Or.inl ⟨by rfl, ?_⟩) ?_ ?_
               rotate_left
               ·intro w'
                go_simp
                with_reducible rfl
               rotate_left
               ·simp only [Act.put, List.setIfInBounds_toArray, List.set_cons_zero, List.set_cons_succ, i64_w, i32_w]
                rfl
               refine pure_ (i := 3) (N := some 59) (v := ?_) (a' := ?_) #[true, false, true, true, false, false, false, false, false, false, false, false, false, false, false, false, false, false, false, false, false, false, false, false, false, false, false, false, false, false, false, false] rfl rfl (any_of HT_.out (by kernel_rfl)) (fun _ _ _ h => h) (Or.inl ⟨by rfl, ?_⟩) ?_ ?_
               rotate_left
               ·intro w'
                go_simp
                with_reducible rfl
               rotate_left
               ·simp only [Act.put, List.setIfInBounds_toArray, List.set_cons_zero, List.set_cons_succ, i64_w, i32_w]
                rfl
               refine pure_ (i := 5) (N := some 61) (v := ?_) (a' := ?_) #[true, false, true, true, false, true, false, false, false, false, false, false, false, false, false, false, false, false, false, false, false, false, false, false, false, false, false, false, false, false, false, false] rfl rfl (any_of HT_.out (by kernel_rfl)) (fun _ _ _ h => h) (Or.inl ⟨by rfl, ?_⟩) ?_ ?_
               rotate_left
               ·intro w'
                go_simp
                with_reducible rfl
               rotate_left
               ·simp only [Act.put, List.setIfInBounds_toArray, List.set_cons_zero, List.set_cons_succ, i64_w, i32_w]
                rfl
               refine pure_ (i := 7) (N := some 63) (v := ?_) (a' := ?_) #[true, false, true, true, false, true, false, true, false, false, false, false, false, false, false, false, false, false, false, false, false, false, false, false, false, false, false, false, false, false, false, false] rfl rfl (any_of HT_.out (by kernel_rfl)) (fun _ _ _ h => h) (Or.inl ⟨by rfl, ?_⟩) ?_ ?_
               rotate_left
               ·intro w'
                go_simp
                with_reducible rfl
               rotate_left
               ·simp only [Act.put, List.setIfInBounds_toArray, List.set_cons_zero, List.set_cons_succ, i64_w, i32_w]
                rfl
               refine pure_ (i := 10) (N := some 66) (v := ?_) (a' := ?_) #[true, false, true, true, false, true, false, true, false, false, true, false, false, false, false, false, false, false, false, false, false, false, false, false, false, false, false, false, false, false, false, false] rfl rfl (any_of HT_.out (by kernel_rfl)) (fun _ _ _ h => h) (Or.inl ⟨by rfl, ?_⟩) ?_ ?_
               rotate_left
               ·intro w'
                go_simp
                with_reducible rfl
               rotate_left
               ·simp only [Act.put, List.setIfInBounds_toArray, List.set_cons_zero, List.set_cons_succ, i64_w, i32_w]
                rfl
               refine pure_ (i := 11) (N := some 67) (v := ?_) (a' := ?_) #[true, false, true, true, false, true, false, true, false, false, true, true, false, false, false, false, false, false, false, false, false, false, false, false, false, false, false, false, false, false, false, false] rfl rfl (any_of HT_.out (by kernel_rfl)) (fun _ _ _ h => h) (Or.inl ⟨by rfl, ?_⟩) ?_ ?_
               rotate_left
               ·intro w'
                go_simp
                with_reducible rfl
               rotate_left
               ·simp only [Act.put, List.setIfInBounds_toArray, List.set_cons_zero, List.set_cons_succ, i64_w, i32_w]
                rfl
               refine pure_ (i := 13) (N := some 69) (v := ?_) (a' := ?_) #[true, false, true, true, false, true, false, true, false, false, true, true, false, true, false, false, false, false, false, false, false, false, false, false, false, false, false, false, false, false, false, false] rfl rfl (any_of HT_.out (by kernel_rfl)) (fun _ _ _ h => h) (Or.inl ⟨by rfl, ?_⟩) ?_ ?_
               rotate_left
               ·intro w'
                go_simp
                with_reducible rfl
               rotate_left
               ·simp only [Act.put, List.setIfInBounds_toArray, List.set_cons_zero, List.set_cons_succ, i64_w, i32_w]
                rfl
               refine pure_ (i := 14) (N := some 70) (v := ?_) (a' := ?_) #[true, false, true, true, false, true, false, true, false, false, true, true, false, true, true, false, false, false, false, false, false, false, false, false, false, false, false, false, false, false, false, false] rfl rfl (any_of HT_.out (by kernel_rfl)) (fun _ _ _ h => h) (Or.inl ⟨by rfl, ?_⟩) ?_ ?_
               rotate_left
               ·intro w'
                go_simp
                with_reducible rfl
               rotate_left
               ·simp only [Act.put, List.setIfInBounds_toArray, List.set_cons_zero, List.set_cons_succ, i64_w, i32_w]
                rfl
               refine pure_ (i := 15) (N := some 71) (v := ?_) (a' := ?_) #[true, false, true, true, false, true, false, true, false, false, true, true, false, true, true, true, false, false, false, false, false, false, false, false, false, false, false, false, false, false, false, false] rfl rfl (any_of HT_.out (by kernel_rfl)) (fun _ _ _ h => h) (Or.inl ⟨by rfl, ?_⟩) ?_ ?_
               rotate_left
               ·intro w'
                go_simp
                with_reducible rfl
               rotate_left
               ·simp only [Act.put, List.setIfInBounds_toArray, List.set_cons_zero, List.set_cons_succ, i64_w, i32_w]
                rfl
               refine pure_ (i := 18) (N := some 74) (v := ?_) (a' := ?_) #[true, false, true, true, false, true, false, true, false, false, true, true, false, true, true, true, false, false, true, false, false, false, false, false, false, false, false, false, false, false, false, false] rfl rfl (any_of HT_.out (by kernel_rfl)) (fun _ _ _ h => h) (Or.inl ⟨by rfl, ?_⟩) ?_ ?_
               rotate_left
               ·intro w'
                go_simp
                with_reducible rfl
               rotate_left
               ·simp only [Act.put, List.setIfInBounds_toArray, List.set_cons_zero, List.set_cons_succ, i64_w, i32_w]
                rfl
               refine pure_ (i := 20) (N := some 76) (v := ?_) (a' := ?_) #[true, false, true, true, false, true, false, true, false, false, true, true, false, true, true, true, false, false, true, false, true, false, false, false, false, false, false, false, false, false, false, false] rfl rfl (any_of HT_.out (by kernel_rfl)) (fun _ _ _ h => h) (Or.inl ⟨by rfl, ?_⟩) ?_ ?_
               rotate_left
               ·intro w'
                go_simp
                with_reducible rfl
               rotate_left
               ·simp only [Act.put, List.setIfInBounds_toArray, List.set_cons_zero, List.set_cons_succ, i64_w, i32_w]
                rfl
               refine pure_ (i := 23) (N := some 79) (v := ?_) (a' := ?_) #[true, false, true, true, false, true, false, true, false, false, true, true, false, true, true, true, false, false, true, false, true, false, false, true, false, false, false, false, false, false, false, false] rfl rfl (any_of HT_.out (by kernel_rfl)) (fun _ _ _ h => h) (Or.inl ⟨by rfl, ?_⟩) ?_ ?_
               rotate_left
               ·intro w'
                go_simp
                with_reducible rfl
               rotate_left
               ·simp only [Act.put, List.setIfInBounds_toArray, List.set_cons_zero, List.set_cons_succ, i64_w, i32_w]
                rfl
               refine pure_ (i := 27) (N := some 83) (v := ?_) (a' := ?_) #[true, false, true, true, false, true, false, true, false, false, true, true, false, true, true, true, false, false, true, false, true, false, false, true, false, false, false, true, false, false, false, false] rfl rfl (any_of HT_.out (by kernel_rfl)) (fun _ _ _ h => h) (Or.inl ⟨by rfl, ?_⟩) ?_ ?_
               rotate_left
               ·intro w'
                go_simp
                with_reducible rfl
               rotate_left
               ·simp only [Act.put, List.setIfInBounds_toArray, List.set_cons_zero, List.set_cons_succ, i64_w, i32_w]
                rfl
               refine take_ (i := 1) (N := some 57) (v := ?_) (a' := ?_) #[true, true, true, true, false, true, false, true, false, false, true, true, false, true, true, true, false, false, true, false, true, false, false, true, false, false, false, true, false, false, false, false] rfl rfl (take_ofW HT_.out HW_.out (by kernel_rfl)) (fun _ _ _ h => h) (Or.inl ⟨by rfl, ?_⟩) hHeld ?_ ?_
               rotate_left
               ·rintro w' ⟨s0, s1, s2, s3, s4, s5, s6, s7, s8, s9, s10, s11, s12, s13, s14⟩
                go_simp
                with_reducible rfl
               rotate_left
               ·simp only [Act.put, List.setIfInBounds_toArray, List.set_cons_zero, List.set_cons_succ, i64_w, i32_w]
                rfl
               refine take_ (i := 4) (N := some 60) (v := ?_) (a' := ?_) #[true, true, true, true, true, true, false, true, false, false, true, true, false, true, true, true, false, false, true, false, true, false, false, true, false, false, false, true, false, false, false, false] rfl rfl (take_ofW HT_.out HW_.out (by kernel_rfl)) (fun _ _ _ h => h) (Or.inl ⟨by rfl, ?_⟩) hHeld ?_ ?_
               rotate_left
               ·rintro w' ⟨s0, s1, s2, s3, s4, s5, s6, s7, s8, s9, s10, s11, s12, s13, s14⟩
                go_simp
                with_reducible rfl
               rotate_left
               ·simp only [Act.put, List.setIfInBounds_toArray, List.set_cons_zero, List.set_cons_succ, i64_w, i32_w]
                rfl
               refine take_ (i := 6) (N := some 62) (v := ?_) (a' := ?_) #[true, true, true, true, true, true, true, true, false, false, true, true, false, true, true, true, false, false, true, false, true, false, false, true, false, false, false, true, false, false, false, false] rfl rfl (take_ofW HT_.out HW_.out (by kernel_rfl)) (fun _ _ _ h => h) (Or.inl ⟨by rfl, ?_⟩) hHeld ?_ ?_
               rotate_left
               ·rintro w' ⟨s0, s1, s2, s3, s4, s5, s6, s7, s8, s9, s10, s11, s12, s13, s14⟩
                go_simp
                with_reducible rfl
               rotate_left
               ·simp only [Act.put, List.setIfInBounds_toArray, List.set_cons_zero, List.set_cons_succ, i64_w, i32_w]
                rfl
               refine pure_ (i := 8) (N := some 64) (v := ?_) (a' := ?_) #[true, true, true, true, true, true, true, true, true, false, true, true, false, true, true, true, false, false, true, false, true, false, false, true, false, false, false, true, false, false, false, false] rfl rfl (any_of HT_.out (by kernel_rfl)) (fun _ _ _ h => h) (Or.inl ⟨by rfl, ?_⟩) ?_ ?_
               rotate_left
               ·intro w'
                go_simp
                with_reducible rfl
               rotate_left
               ·simp only [Act.put, List.setIfInBounds_toArray, List.set_cons_zero, List.set_cons_succ, i64_w, i32_w]
                rfl
               refine take_ (i := 9) (N := some 65) (v := ?_) (a' := ?_) #[true, true, true, true, true, true, true, true, true, true, true, true, false, true, true, true, false, false, true, false, true, false, false, true, false, false, false, true, false, false, false, false] rfl rfl (take_ofW HT_.out HW_.out (by kernel_rfl)) (fun _ _ _ h => h) (Or.inl ⟨by rfl, ?_⟩) hHeld ?_ ?_
               rotate_left
               ·rintro w' ⟨s0, s1, s2, s3, s4, s5, s6, s7, s8, s9, s10, s11, s12, s13, s14⟩
                go_simp
                with_reducible rfl
               rotate_left
               ·simp only [Act.put, List.setIfInBounds_toArray, List.set_cons_zero, List.set_cons_succ, i64_w, i32_w]
                rfl
               refine take_ (i := 12) (N := some 68) (v := ?_) (a' := ?_) #[true, true, true, true, true, true, true, true, true, true, true, true, true, true, true, true, false, false, true, false, true, false, false, true, false, false, false, true, false, false, false, false] rfl rfl (take_ofW HT_.out HW_.out (by kernel_rfl)) (fun _ _ _ h => h) (Or.inl ⟨by rfl, ?_⟩) hHeld ?_ ?_
               rotate_left
               ·rintro w' ⟨s0, s1, s2, s3, s4, s5, s6, s7, s8, s9, s10, s11, s12, s13, s14⟩
                go_simp
                with_reducible rfl
               rotate_left
               ·simp only [Act.put, List.setIfInBounds_toArray, List.set_cons_zero, List.set_cons_succ, i64_w, i32_w]
                rfl
               refine take_ (i := 16) (N := some 72) (v := ?_) (a' := ?_) #[true, true, true, true, true, true, true, true, true, true, true, true, true, true, true, true, true, false, true, false, true, false, false, true, false, false, false, true, false, false, false, false] rfl rfl (take_ofW HT_.out HW_.out (by kernel_rfl)) (fun _ _ _ h => h) (Or.inl ⟨by rfl, ?_⟩) hHeld ?_ ?_
               rotate_left
               ·rintro w' ⟨s0, s1, s2, s3, s4, s5, s6, s7, s8, s9, s10, s11, s12, s13, s14⟩
                go_simp
                with_reducible rfl
               rotate_left
               ·simp only [Act.put, List.setIfInBounds_toArray, List.set_cons_zero, List.set_cons_succ, i64_w, i32_w]
                rfl
               refine pure_ (i := 17) (N := some 73) (v := ?_) (a' := ?_) #[true, true, true, true, true, true, true, true, true, true, true, true, true, true, true, true, true, true, true, false, true, false, false, true, false, false, false, true, false, false, false, false] rfl rfl (any_of HT_.out (by kernel_rfl)) (fun _ _ _ h => h) (Or.inl ⟨by rfl, ?_⟩) ?_ ?_
               rotate_left
               ·intro w'
                go_simp
                with_reducible rfl
               rotate_left
               ·simp only [Act.put, List.setIfInBounds_toArray, List.set_cons_zero, List.set_cons_succ, i64_w, i32_w]
                rfl
               refine pure_ (i := 19) (N := some 75) (v := ?_) (a' := ?_) #[true, true, true, true, true, true, true, true, true, true, true, true, true, true, true, true, true, true, true, true, true, false, false, true, false, false, false, true, false, false, false, false] rfl rfl (any_of HT_.out (by kernel_rfl)) (fun _ _ _ h => h) (Or.inl ⟨by rfl, ?_⟩) ?_ ?_
               rotate_left
               ·intro w'
                go_simp
                with_reducible rfl
               rotate_left
               ·simp only [Act.put, List.setIfInBounds_toArray, List.set_cons_zero, List.set_cons_succ, i64_w, i32_w]
                rfl
               refine take_ (i := 21) (N := some 77) (v := ?_) (a' := ?_) #[true, true, true, true, true, true, true, true, true, true, true, true, true, true, true, true, true, true, true, true, true, true, false, true, false, false, false, true, false, false, false, false] rfl rfl (take_ofW HT_.out HW_.out (by kernel_rfl)) (fun _ _ _ h => h) (Or.inl ⟨by rfl, ?_⟩) hHeld ?_ ?_
               rotate_left
               ·rintro w' ⟨s0, s1, s2, s3, s4, s5, s6, s7, s8, s9, s10, s11, s12, s13, s14⟩
                go_simp
                with_reducible rfl
               rotate_left
               ·simp only [Act.put, List.setIfInBounds_toArray, List.set_cons_zero, List.set_cons_succ, i64_w, i32_w]
                rfl
               refine pure_ (i := 22) (N := some 78) (v := ?_) (a' := ?_) #[true, true, true, true, true, true, true, true, true, true, true, true, true, true, true, true, true, true, true, true, true, true, true, true, false, false, false, true, false, false, false, false] rfl rfl (any_of HT_.out (by kernel_rfl)) (fun _ _ _ h => h) (Or.inl ⟨by rfl, ?_⟩) ?_ ?_
               rotate_left
               ·intro w'
                go_simp
                with_reducible rfl
               rotate_left
               ·simp only [Act.put, List.setIfInBounds_toArray, List.set_cons_zero, List.set_cons_succ, i64_w, i32_w]
                rfl
               refine pure_ (i := 24) (N := some 80) (v := ?_) (a' := ?_) #[true, true, true, true, true, true, true, true, true, true, true, true, true, true, true, true, true, true, true, true, true, true, true, true, true, false, false, true, false, false, false, false] rfl rfl (any_of HT_.out (by kernel_rfl)) (fun _ _ _ h => h) (Or.inl ⟨by rfl, ?_⟩) ?_ ?_
               rotate_left
               ·intro w'
                go_simp
                with_reducible rfl
               rotate_left
               ·simp only [Act.put, List.setIfInBounds_toArray, List.set_cons_zero, List.set_cons_succ, i64_w, i32_w]
                rfl
               refine pure_ (i := 25) (N := some 81) (v := ?_) (a' := ?_) #[true, true, true, true, true, true, true, true, true, true, true, true, true, true, true, true, true, true, true, true, true, true, true, true, true, true, false, true, false, false, false, false] rfl rfl (any_of HT_.out (by kernel_rfl)) (fun _ _ _ h => h) (Or.inl ⟨by rfl, ?_⟩) ?_ ?_
               rotate_left
               ·intro w'
                go_simp
                with_reducible rfl
               rotate_left
               ·simp only [Act.put, List.setIfInBounds_toArray, List.set_cons_zero, List.set_cons_succ, i64_w, i32_w]
                rfl
               refine take_ (i := 26) (N := some 82) (v := ?_) (a' := ?_) #[true, true, true, true, true, true, true, true, true, true, true, true, true, true, true, true, true, true, true, true, true, true, true, true, true, true, true, true, false, false, false, false] rfl rfl (take_ofW HT_.out HW_.out (by kernel_rfl)) (fun _ _ _ h => h) (Or.inl ⟨by rfl, ?_⟩) hHeld ?_ ?_
               rotate_left
               ·rintro w' ⟨s0, s1, s2, s3, s4, s5, s6, s7, s8, s9, s10, s11, s12, s13, s14⟩
                go_simp
                with_reducible rfl
               rotate_left
               ·simp only [Act.put, List.setIfInBounds_toArray, List.set_cons_zero, List.set_cons_succ, i64_w, i32_w]
                rfl
               refine take_ (i := 28) (N := some 84) (v := ?_) (a' := ?_) #[true, true, true, true, true, true, true, true, true, true, true, true, true, true, true, true, true, true, true, true, true, true, true, true, true, true, true, true, true, false, false, false] rfl rfl (take_ofW HT_.out HW_.out (by kernel_rfl)) (fun _ _ _ h => h) (Or.inl ⟨by rfl, ?_⟩) hHeld ?_ ?_
               rotate_left
               ·rintro w' ⟨s0, s1, s2, s3, s4, s5, s6, s7, s8, s9, s10, s11, s12, s13, s14⟩
                go_simp
                with_reducible rfl
               rotate_left
               ·simp only [Act.put, List.setIfInBounds_toArray, List.set_cons_zero, List.set_cons_succ, i64_w, i32_w]
                rfl
               refine one_ (i := 29) (N := some 85) #[true, true, true, true, true, true, true, true, true, true, true, true, true, true, true, true, true, true, true, true, true, true, true, true, true, true, true, true, true, true, false, false] rfl rfl (one_of HT_.out (by kernel_rfl)) (by decide) (fun K hK => ?_)
               refine goes_ Try.func145 (by kernel_rfl) rfl #[.int .i64 a1_6, .int .i64 (rd xz0 ji17), .int .i64 (rd l1_3 ji20), .int .i64 a1_7] (by rfl) rfl rfl (by (try simp only [List.map_toArray, List.map_cons, List.map_nil]); rfl) ?_
               with_reducible refine (spec_blend.calls a1_6 (rd xz0 ji17) (rd l1_3 ji20) a1_7 tz0 _ A23.out).mono ?_
               rintro e w29 ⟨rfl, hb⟩
               have HS13_ := (hb.cell (World.block_lt_of_cell? _ _ hHeld.2.2.2.2.2.2.2.2.2.2.2.2.2.1)).trans (hHeld.2.2.2.2.2.2.2.2.2.2.2.2.2.1)
               refine ⟨_, rfl, ?_⟩
               have n0_ := mk (Kd.R_below HOz0.out hb)
               have n1_ := mk (blk_below BKz1.out hb)
               have n2_ := mk (blk_below BKz0.out hb)
               have n3_ := mk (Kept.below (S := (fun k_ => P0_3_ k_)) HK.out hb)
               have n4_ := mk (below_step HB.out hb)
               clear HOz0 BKz1 BKz0 HK HB
               revert n0_ n1_ n2_ n3_ n4_; intro HOz0 BKz1 BKz0 HK HB
               (try clear hb)
               have p24 : 0 ≤ (ji17 : Int) := of_decide_eq_true (by (with_reducible assumption))
               have q24 : (ji17 : Int) < ((xz0.length : Int) : Int) := of_decide_eq_true (by (with_reducible assumption))
               obtain ⟨go24, co24, eo24, gb24, gl24, cl24, HG24⟩ := Kd.R_form HOz0.out (by omega)
               (cases eo24)
               have GB24 := mk gb24
               have GG24 := mk HG24
               clear gb24 gl24 HG24
               have HMgo24 := mk (show (P0_3_ go24 ∨ w.heap.size ≤ go24) from (HOz0.out.1 _ rfl))
               (simp only [add_plain] at hx115004_0)
               obtain ⟨hx24_0, hf24_0⟩ := Kd.R_celln 0 HOz0.out (ji17 : Int) p24 q24
               replace p24 := eq_true p24
               replace q24 := eq_true q24
               have HP30 := Kd.R_putn HOz0.out (ji17 : Int) tz0
               rw [← Nyz0.out] at HP30
               have HQ30 := mk HP30
               clear HP30
               refine hK.out _ _ ⟨(blk_cell BKz1.out 0).trans rfl, (blk_cell BKz1.out 1).trans rfl, (blk_cell BKz1.out 2).trans rfl, (blk_cell BKz1.out 3).trans rfl, (blk_cell BKz0.out 0).trans rfl, (blk_cell BKz0.out 1).trans rfl, (blk_cell BKz0.out 2).trans rfl, (blk_cell BKz0.out 3).trans rfl, (blk_cell BKz0.out 4).trans rfl, (blk_cell BKz0.out 5).trans rfl, (blk_cell BKz0.out 6).trans rfl, (blk_cell BKz0.out 7).trans rfl, (blk_cell BKz0.out 8).trans rfl, HS13_, (Kd.foot_int (HR1_3.out _ HK.out) ji20 (of_eq_true p115005) (of_eq_true q115005))⟩ (fun hHeld => ?_)
               clear hK K
               refine norm_ (a' := ?_) ?_ ?_
               rotate_left
               ·show Act.put _ (some 85) _ = _
                simp only [Act.put, List.setIfInBounds_toArray, List.set_cons_zero, List.set_cons_succ, i64_w, i32_w]
                rfl
               refine pure_ (i := 30) (N := some 86) (v := ?_) (a' := ?_) #[true, true, true, true, true, true, true, true, true, true, true, true, true, true, true, true, true, true, true, true, true, true, true, true, true, true, true, true, true, true, true, false] rfl rfl (any_of HT_.out (by kernel_rfl)) (fun _ _ _ h => h) (Or.inl ⟨by rfl, ?_⟩) ?_ ?_
               rotate_left
               ·intro w'
                go_simp
                with_reducible rfl
               rotate_left
               ·simp only [Act.put, List.setIfInBounds_toArray, List.set_cons_zero, List.set_cons_succ, i64_w, i32_w]
                rfl
               refine last_ (i := 31) (N := none) #[true, true, true, true, true, true, true, true, true, true, true, true, true, true, true, true, true, true, true, true, true, true, true, true, true, true, true, true, true, true, true, true] rfl rfl (one_of HT_.out (by kernel_rfl)) (by decide) (fun K hK => ?_)
               refine skip_ (w1 := ?_) (by rfl) rfl ?_ ?_
               rotate_left
               ·go_simp
                rfl
               refine hK.out _ _ ?_
               clear hK K
               refine done_ (done_of HT_.out (by kernel_rfl)) ?_
               try go_wp2
               (try simp only [← hl115002003_3])
               go_roundg k3
               case measure => have := HK1.out; have := HK2.out; have := HK3.out; omega
               case rel => exact ⟨(wrap64 (x6_3 + 1)), (yz0), (by rfl), H', ⟨by have := HK1.out; have := HK2.out; have := HK3.out; omega⟩, ⟨by (try simp only [hl115002003_3]); (with_reducible repeat (first | apply Kd.R_alloc | apply Kd.R_drewN | apply Kd.R_drew)); exact HQ30.out⟩, ⟨by (try simp only [hl115002003_3]); refine blk_far ?_ (by have h_ := Kd.R_ne HOz0.out BKz1.out (by decide); intro e_; exact h_ (by rw [e_]; rfl)) _; (with_reducible repeat (first | refine blk_drewN ?_ _ | refine blk_drew ?_ | refine blk_alloc ?_ _)); exact BKz1.out⟩, ⟨by refine blk_far ?_ (by have h_ := Kd.R_ne HOz0.out BKz0.out (by decide); intro e_; exact h_ (by rw [e_]; rfl)) _; (with_reducible repeat (first | refine blk_drewN ?_ _ | refine blk_drew ?_ | refine blk_alloc ?_ _)); exact BKz0.out⟩, ⟨by repeat (with_reducible first | exact HK.out | refine Kept.setCell ?_ HMgo24.out _)⟩, ⟨by repeat (with_reducible first | exact HB.out | refine below_set ?_ GB24.out)⟩⟩
              rw [if_neg c22] at H
              exact absurd H (by simp)
             rw [if_neg c21] at H
             exact absurd H (by simp)
            rw [if_neg c19] at H
            exact absurd H (by simp)
           rw [if_neg c18] at H
           exact absurd H (by simp)
          rw [if_neg c16] at H
          have c16b0 : decide (x6_3 < a0_2) = false := decide_eq_false c16
          clear c16
          have H' := mk H
          clear H
          have hnb31 := NBz0.out
          have hnc31 := NBz1.out
          have hcz32_0 : wr.cell? ⟨gbz1, 0, none⟩ = some (.int .i64 a0_0) := (blk_cell BKz1.out 0).trans rfl
          have hcz32_1 : wr.cell? ⟨gbz1, 1, none⟩ = some (.int .i64 a0_1) := (blk_cell BKz1.out 1).trans rfl
          have hcz32_2 : wr.cell? ⟨gbz1, 2, none⟩ = some (.int .i64 a0_2) := (blk_cell BKz1.out 2).trans rfl
          have hcz32_3 : wr.cell? ⟨gbz1, 3, none⟩ = some (.slice Ao3 xz0.length co3) := (blk_cell BKz1.out 3).trans rfl
          have hfz32_0 := blk_frozen BKz1.out 0
          have hfz32_1 := blk_frozen BKz1.out 1
          have hfz32_2 := blk_frozen BKz1.out 2
          have hfz32_3 := blk_frozen BKz1.out 3
          go_wp2
          (try simp only [← hl115002003_2, ← hl115002003_3])
          go_roundg k3
          case measure => have := HK1.out; have := HK2.out; have := HK3.out; omega
          case rel => exact ⟨(wrap64 (x5_2 + 1)), (xz0), (by rfl), H', ⟨by have := HK1.out; have := HK2.out; have := HK3.out; omega⟩, ⟨by (try simp only [hl115002003_2]); (try simp only [hl115002003_3]); (with_reducible repeat (first | apply Kd.R_alloc | apply Kd.R_drewN | apply Kd.R_drew)); exact HOz0.out⟩, ⟨by (try simp only [hl115002003_2]); (try simp only [hl115002003_3]); (with_reducible repeat (first | refine blk_drewN ?_ _ | refine blk_drew ?_ | refine blk_alloc ?_ _)); exact BKz1.out⟩, ⟨by (with_reducible repeat (first | refine blk_drewN ?_ _ | refine blk_drew ?_ | refine blk_alloc ?_ _)); exact BKz0.out⟩, ⟨by exact HK.out⟩, ⟨by exact HB.out⟩⟩
       replace c11 := Bool.eq_false_iff.mpr c11
       subst c11
       have H1 : (spec_blendPaste.l1 k2 x4_1 (wrap64 (x5_2 + 1)) a0_0 a0_1 a0_2 xz1 a1_0 a1_1 a1_2 l1_3 a1_4 a1_5 a1_6 a1_7 a1_8) = some r := by rw [if_neg (show ¬ (false = true) by decide)] at H; exact H
       clear H
       have H := H1
       clear H1
       have H' := mk H
       clear H
       have hnb33 := NBz1.out
       have hnc33 := NBz0.out
       have hcz34_0 : wr.cell? ⟨gbz0, 0, none⟩ = some (.int .i64 a1_0) := (blk_cell BKz0.out 0).trans rfl
       have hcz34_1 : wr.cell? ⟨gbz0, 1, none⟩ = some (.int .i64 a1_1) := (blk_cell BKz0.out 1).trans rfl
       have hcz34_2 : wr.cell? ⟨gbz0, 2, none⟩ = some (.int .i64 a1_2) := (blk_cell BKz0.out 2).trans rfl
       have hcz34_3 : wr.cell? ⟨gbz0, 3, none⟩ = some (.slice A1_3 l1_3.length c1_3) := (blk_cell BKz0.out 3).trans rfl
       have hcz34_4 : wr.cell? ⟨gbz0, 4, none⟩ = some (.int .i64 a1_4) := (blk_cell BKz0.out 4).trans rfl
       have hcz34_5 : wr.cell? ⟨gbz0, 5, none⟩ = some (.int .i64 a1_5) := (blk_cell BKz0.out 5).trans rfl
       have hcz34_6 : wr.cell? ⟨gbz0, 6, none⟩ = some (.int .i64 a1_6) := (blk_cell BKz0.out 6).trans rfl
       have hcz34_7 : wr.cell? ⟨gbz0, 7, none⟩ = some (.int .i64 a1_7) := (blk_cell BKz0.out 7).trans rfl
       have hcz34_8 : wr.cell? ⟨gbz0, 8, none⟩ = some (.bool a1_8) := (blk_cell BKz0.out 8).trans rfl
       have hfz34_0 := blk_frozen BKz0.out 0
       have hfz34_1 := blk_frozen BKz0.out 1
       have hfz34_2 := blk_frozen BKz0.out 2
       have hfz34_3 := blk_frozen BKz0.out 3
       have hfz34_4 := blk_frozen BKz0.out 4
       have hfz34_5 := blk_frozen BKz0.out 5
       have hfz34_6 := blk_frozen BKz0.out 6
       have hfz34_7 := blk_frozen BKz0.out 7
       have hfz34_8 := blk_frozen BKz0.out 8
       have hcz35_0 : wr.cell? ⟨gbz1, 0, none⟩ = some (.int .i64 a0_0) := (blk_cell BKz1.out 0).trans rfl
       have hcz35_1 : wr.cell? ⟨gbz1, 1, none⟩ = some (.int .i64 a0_1) := (blk_cell BKz1.out 1).trans rfl
       have hcz35_2 : wr.cell? ⟨gbz1, 2, none⟩ = some (.int .i64 a0_2) := (blk_cell BKz1.out 2).trans rfl
       have hcz35_3 : wr.cell? ⟨gbz1, 3, none⟩ = some (.slice Ao3 xz1.length co3) := (blk_cell BKz1.out 3).trans rfl
       have hfz35_0 := blk_frozen BKz1.out 0
       have hfz35_1 := blk_frozen BKz1.out 1
       have hfz35_2 := blk_frozen BKz1.out 2
       have hfz35_3 := blk_frozen BKz1.out 3
       go_wp2_with (first | ((with_reducible refine gate_callee (f := 144) rfl ?_); refine goesL_ (some 31) rfl rfl Try.func144 (by kernel_rfl) rfl #[.agg #[.int .i64 a0_0, .int .i64 a0_1, .int .i64 a0_2, .slice Ao3 xz1.length co3], .int .i64 (wrap64 (a1_4 + x5_2)), .int .i64 (wrap64 (a1_5 + x4_1))] rfl (by (try simp only [List.map_toArray, List.map_cons, List.map_nil]); rfl) ?_; (with_reducible refine (spec_onImage.calls a0_0 a0_1 a0_2 _ _ xz1 (wrap64 (a1_4 + x5_2)) (wrap64 (a1_5 + x4_1)) false _ ?side1 ?side2 A10.out).mono ?_); (case side1 => repeat (exact (Kd.R_reads' HOz0.out).2.2)); (case side2 => exact (Kd.R_reads' HOz0.out).2.1); rintro e w36 ⟨rfl, hb⟩; refine ⟨_, rfl, ?_⟩; have n0_ := mk (Kd.R_below HOz0.out hb); have n1_ := mk (blk_below BKz1.out hb); have n2_ := mk (blk_below BKz0.out hb); have n3_ := mk (Kept.below (S := (fun k_ => P0_3_ k_)) HK.out hb); have n4_ := mk (below_step HB.out hb); clear HOz0; clear BKz1; clear BKz0; clear HK; clear HB; have HOz0 := n0_; have BKz1 := n1_; have BKz0 := n2_; have HK := n3_; have HB := n4_; clear n0_ n1_ n2_ n3_ n4_; (try clear hb)))
       (try simp only [← hl115002003_2])
       go_roundg k2
       case measure => have := HK1.out; have := HK2.out; omega
       case rel => exact ⟨(wrap64 (x5_2 + 1)), (xz1), (by rfl), H', ⟨by have := HK1.out; have := HK2.out; omega⟩, ⟨by (try simp only [hl115002003_2]); (with_reducible repeat (first | apply Kd.R_alloc | apply Kd.R_drewN | apply Kd.R_drew)); exact HOz0.out⟩, ⟨by (try simp only [hl115002003_2]); (with_reducible repeat (first | refine blk_drewN ?_ _ | refine blk_drew ?_ | refine blk_alloc ?_ _)); exact BKz1.out⟩, ⟨by (with_reducible repeat (first | refine blk_drewN ?_ _ | refine blk_drew ?_ | refine blk_alloc ?_ _)); exact BKz0.out⟩, ⟨by exact HK.out⟩, ⟨by exact HB.out⟩⟩
      rw [if_neg c9] at H
      have c9b0 : decide (x5_2 < a1_0) = false := decide_eq_false c9
      clear c9
      have H' := mk H
      clear H
      have hnb37 := NBz1.out
      have hnc37 := NBz0.out
      have hcz38_0 : wr.cell? ⟨gbz0, 0, none⟩ = some (.int .i64 a1_0) := (blk_cell BKz0.out 0).trans rfl
      have hcz38_1 : wr.cell? ⟨gbz0, 1, none⟩ = some (.int .i64 a1_1) := (blk_cell BKz0.out 1).trans rfl
      have hcz38_2 : wr.cell? ⟨gbz0, 2, none⟩ = some (.int .i64 a1_2) := (blk_cell BKz0.out 2).trans rfl
      have hcz38_3 : wr.cell? ⟨gbz0, 3, none⟩ = some (.slice A1_3 l1_3.length c1_3) := (blk_cell BKz0.out 3).trans rfl
      have hcz38_4 : wr.cell? ⟨gbz0, 4, none⟩ = some (.int .i64 a1_4) := (blk_cell BKz0.out 4).trans rfl
      have hcz38_5 : wr.cell? ⟨gbz0, 5, none⟩ = some (.int .i64 a1_5) := (blk_cell BKz0.out 5).trans rfl
      have hcz38_6 : wr.cell? ⟨gbz0, 6, none⟩ = some (.int .i64 a1_6) := (blk_cell BKz0.out 6).trans rfl
      have hcz38_7 : wr.cell? ⟨gbz0, 7, none⟩ = some (.int .i64 a1_7) := (blk_cell BKz0.out 7).trans rfl
      have hcz38_8 : wr.cell? ⟨gbz0, 8, none⟩ = some (.bool a1_8) := (blk_cell BKz0.out 8).trans rfl
      have hfz38_0 := blk_frozen BKz0.out 0
      have hfz38_1 := blk_frozen BKz0.out 1
      have hfz38_2 := blk_frozen BKz0.out 2
      have hfz38_3 := blk_frozen BKz0.out 3
      have hfz38_4 := blk_frozen BKz0.out 4
      have hfz38_5 := blk_frozen BKz0.out 5
      have hfz38_6 := blk_frozen BKz0.out 6
      have hfz38_7 := blk_frozen BKz0.out 7
      have hfz38_8 := blk_frozen BKz0.out 8
      go_wp2
      (try simp only [← hl115002003_1, ← hl115002003_2])
      go_roundg k2
      case measure => have := HK1.out; have := HK2.out; omega
      case rel => exact ⟨(wrap64 (x4_1 + 1)), (xz1), (by rfl), H', ⟨by have := HK1.out; have := HK2.out; omega⟩, ⟨by (try simp only [hl115002003_1]); (try simp only [hl115002003_2]); (with_reducible repeat (first | apply Kd.R_alloc | apply Kd.R_drewN | apply Kd.R_drew)); exact HOz0.out⟩, ⟨by (try simp only [hl115002003_1]); (try simp only [hl115002003_2]); (with_reducible repeat (first | refine blk_drewN ?_ _ | refine blk_drew ?_ | refine blk_alloc ?_ _)); exact BKz1.out⟩, ⟨by (with_reducible repeat (first | refine blk_drewN ?_ _ | refine blk_drew ?_ | refine blk_alloc ?_ _)); exact BKz0.out⟩, ⟨by exact HK.out⟩, ⟨by exact HB.out⟩⟩
   rw [if_neg c6] at H
   have c6b0 : decide (x4_1 < a1_1) = false := decide_eq_false c6
   clear c6
   obtain rfl := Option.some.inj H
   have hnb39 := NBz1.out
   have hnc39 := NBz0.out
   have hcz40_0 : wr.cell? ⟨gbz0, 0, none⟩ = some (.int .i64 a1_0) := (blk_cell BKz0.out 0).trans rfl
   have hcz40_1 : wr.cell? ⟨gbz0, 1, none⟩ = some (.int .i64 a1_1) := (blk_cell BKz0.out 1).trans rfl
   have hcz40_2 : wr.cell? ⟨gbz0, 2, none⟩ = some (.int .i64 a1_2) := (blk_cell BKz0.out 2).trans rfl
   have hcz40_3 : wr.cell? ⟨gbz0, 3, none⟩ = some (.slice A1_3 l1_3.length c1_3) := (blk_cell BKz0.out 3).trans rfl
   have hcz40_4 : wr.cell? ⟨gbz0, 4, none⟩ = some (.int .i64 a1_4) := (blk_cell BKz0.out 4).trans rfl
   have hcz40_5 : wr.cell? ⟨gbz0, 5, none⟩ = some (.int .i64 a1_5) := (blk_cell BKz0.out 5).trans rfl
   have hcz40_6 : wr.cell? ⟨gbz0, 6, none⟩ = some (.int .i64 a1_6) := (blk_cell BKz0.out 6).trans rfl
   have hcz40_7 : wr.cell? ⟨gbz0, 7, none⟩ = some (.int .i64 a1_7) := (blk_cell BKz0.out 7).trans rfl
   have hcz40_8 : wr.cell? ⟨gbz0, 8, none⟩ = some (.bool a1_8) := (blk_cell BKz0.out 8).trans rfl
   have hfz40_0 := blk_frozen BKz0.out 0
   have hfz40_1 := blk_frozen BKz0.out 1
   have hfz40_2 := blk_frozen BKz0.out 2
   have hfz40_3 := blk_frozen BKz0.out 3
   have hfz40_4 := blk_frozen BKz0.out 4
   have hfz40_5 := blk_frozen BKz0.out 5
   have hfz40_6 := blk_frozen BKz0.out 6
   have hfz40_7 := blk_frozen BKz0.out 7
   have hfz40_8 := blk_frozen BKz0.out 8
   go_wp2
   go_end0
   exact ⟨by rfl, HOz0.out, by exact HB.out, by exact HK.out⟩


def spec_flatten.l0 : Nat → List S55 → Int → Int → Int → Int → List Int → Option (Int × Int × Int × List Int)
 | 0, _, _, _, _, _, _ => none
 | k + 1, x1, x6, xz1, xz2, xz3, xz4 => if x6 < (x1.length : Int) then (if 0 ≤ x6 then (if ((rd_T55 x1 x6).f5 = true) then (spec_flatten.l0 k x1 (wrap64 (x6 + 1)) xz1 xz2 xz3 xz4) else ((spec_blendPaste.f k xz1 xz2 xz3 xz4 ((rd_T55 x1 x6).f0.f0) ((rd_T55 x1 x6).f0.f1) ((rd_T55 x1 x6).f0.f2) ((rd_T55 x1 x6).f0.f3) ((rd_T55 x1 x6).f1) ((rd_T55 x1 x6).f2) ((rd_T55 x1 x6).f3) ((rd_T55 x1 x6).f4) ((rd_T55 x1 x6).f5)).bind fun tz3 => (spec_flatten.l0 k x1 (wrap64 (x6 + 1)) xz1 xz2 xz3 tz3))) else none) else (some (xz1, xz2, xz3, xz4))
def spec_flatten.f (k : Nat) (a0_0 : Int) (a0_1 : Int) (a0_2 : Int) (l0_3 : List Int) (l1 : List S55) : Option (Int × Int × Int × List Int) := (spec_copyImage.f a0_0 a0_1 a0_2 l0_3).bind fun btz0 => (spec_flatten.l0 k l1 0 btz0.1 btz0.2.1 btz0.2.2.1 btz0.2.2.2)
theorem spec_flatten.mono_l : ∀ k, (∀ y0 y1 y2 y3 y4 y5, LeO (spec_flatten.l0 k y0 y1 y2 y3 y4 y5) (spec_flatten.l0 (k + 1) y0 y1 y2 y3 y4 y5))
 | 0 => fun _ _ _ _ _ _ r h => by simp [spec_flatten.l0] at h
 | k + 1 => by
  have ih0 := spec_flatten.mono_l k
  ·intro y0 y1 y2 y3 y4 y5
   unfold spec_flatten.l0
   repeat' first | (with_reducible exact ih0 _ _ _ _ _ _) | (with_reducible exact spec_blendPaste.mono _ _ _ _ _ _ _ _ _ _ _ _ _ _) | (with_reducible exact LeO.refl _) | (with_reducible refine LeO.ite ?_ ?_) | (with_reducible refine LeO.bind ?_ (fun _ => ?_))
theorem spec_flatten.mono : ∀ a0 a1 a2 a3 a4 k, LeO (spec_flatten.f k a0 a1 a2 a3 a4) (spec_flatten.f (k + 1) a0 a1 a2 a3 a4) := by
 intro a0 a1 a2 a3 a4 k
 have ih0 := spec_flatten.mono_l k
 unfold spec_flatten.f
 repeat' first | (with_reducible exact ih0 _ _ _ _ _ _) | (with_reducible exact LeO.refl _) | (with_reducible refine LeO.bind ?_ (fun _ => ?_))
set_option maxHeartbeats 8000000 in
set_option maxRecDepth 100000 in
theorem spec_flatten.calls (k : Nat) (a0_0 : Int) (a0_1 : Int) (a0_2 : Int) (A0_3 : Option Addr) (c0_3 : Nat) (l0_3 : List Int) (A1 : Option Addr) (c1 : Nat) (l1 : List S55) (r1 : Int) (r2 : Int) (r3 : Int) (r4 : List Int) (w : World) (hr0_3 : Kd.C (Kd.int .i64) w A0_3 l0_3.length l0_3) (hc0_3 : l0_3.length ≤ c0_3) (hr1 : Kd.C k55 w A1 l1.length l1) (hc1 : l1.length ≤ c1) (h : spec_flatten.f k a0_0 a0_1 a0_2 l0_3 l1 = some (r1, r2, r3, r4)) :
  Calls Try.prog 118 #[.agg #[.int .i64 a0_0, .int .i64 a0_1, .int .i64 a0_2, .slice A0_3 l0_3.length c0_3], .slice A1 l1.length c1] w fun e w' => ∃ v3_ : Value, e = .returned (.agg #[.int .i64 r1, .int .i64 r2, .int .i64 r3, v3_]) ∧ Kd.R (Kd.int .i64) 3 w' w.heap.size (fun _ => True) v3_ r4 ∧ Below w.heap.size w w' := by
 have hu27 := Try.underlying27
 have hu55 := Try.underlying55
 have HR0_3 := mk hr0_3
 have HC0_3 := mk hc0_3
 clear hr0_3 hc0_3
 have HR1 := mk hr1
 have HC1 := mk hc1
 clear hr1 hc1
 have HB := mk (Below.refl w.heap.size w)
 have H : ((spec_copyImage.f a0_0 a0_1 a0_2 l0_3).bind fun btz0 => (spec_flatten.l0 k l1 0 btz0.1 btz0.2.1 btz0.2.2.1 btz0.2.2.2)) = some (r1, r2, r3, r4) := h
 clear h
 replace H := Option.bind_eq_some_iff.mp H
 obtain ⟨⟨tz0, tz1, tz2, tz4⟩, A30, H⟩ := H
 replace H : (spec_flatten.l0 k l1 0 tz0 tz1 tz2 tz4) = some (r1, r2, r3, r4) := H
 have A3 := mk A30
 clear A30
 have H' := mk H
 clear H
 go_enter Try.func118, Try.ntmps118
 go_wp2_with (first | ((with_reducible refine gate_dst (N := 2) rfl ?_); refine box_event (by rfl) (N := 2) (by rfl) (cs := #[.int .i64 a0_0, .int .i64 a0_1, .int .i64 a0_2, .slice A0_3 l0_3.length c0_3]) (t := 27) (by go_simp; done) ?_; intro gbz2 hg w4 hbox hb; replace HB := mk (below_step HB.out hb); have BKz1 := mk (hbox); clear hb hbox hg) | ((with_reducible refine gate_dst (N := 4) rfl ?_); refine box_event (by rfl) (N := 4) (by rfl) (cs := #[.int .i64 0, .int .i64 0, .int .i64 0, .slice none 0 0]) (t := 27) (by go_simp; done) ?_; intro gbz1 hg w5 hbox hb; replace BKz1 := mk (blk_below BKz1.out hb); have BKz2 := mk (hbox); have GEz0 := mk ((by rw [hg]; exact (below_size HB.out) : w.heap.size ≤ gbz1)); replace HB := mk (below_step HB.out hb); clear hb hbox hg; obtain ⟨hcz7_0, hcz7_1, hcz7_2, hcz7_3, hfz7_0, hfz7_1, hfz7_2, -⟩ := c4 BKz1.out; have hfz7_3 := blk_frozen BKz1.out 3) | ((with_reducible refine gate_callee (f := 113) rfl ?_); refine goesL_ (some 8) rfl rfl Try.func113 (by kernel_rfl) rfl #[.agg #[.int .i64 a0_0, .int .i64 a0_1, .int .i64 a0_2, .slice A0_3 l0_3.length c0_3]] rfl (by (try simp only [List.map_toArray, List.map_cons, List.map_nil]); rfl) ?_; (with_reducible refine (spec_copyImage.calls a0_0 a0_1 a0_2 _ _ l0_3 tz0 tz1 tz2 tz4 _ ?side1 ?side2 A3.out).mono ?_); (case side1 => repeat (exact (Kd.C_below HR0_3.out HB.out))); (case side2 => exact HC0_3.out); rintro e w8 ⟨vz0, rfl, ho0, hb⟩; refine ⟨_, rfl, ?_⟩; have HOz1 := mk (Kd.R_lower ho0 (below_size HB.out)); replace BKz1 := mk (blk_below BKz1.out hb); replace BKz2 := mk (blk_below BKz2.out hb); replace HB := mk (below_step HB.out hb); (try clear hb); (try clear ho0)) | ((with_reducible refine gate_dst (N := 5) rfl ?_); refine box_event (by rfl) (N := 5) (by rfl) (cs := #[.int .i64 0, .int .i64 0, .int .i64 0, .slice none 0 0]) (t := 27) (by go_simp; done) ?_; intro gbz0 hg w9 hbox hb; replace HOz1 := mk (Kd.R_below HOz1.out hb); have BKz0 := mk (hbox); have GEz1 := mk ((by rw [hg]; exact (below_size HB.out) : w.heap.size ≤ gbz0)); replace HB := mk (below_step HB.out hb); have NBz0 := mk ((by rw [hg]; exact Nat.ne_of_lt (blk_lt BKz1.out) : gbz2 ≠ gbz0)); replace BKz1 := mk (blk_below BKz1.out hb); have NBz1 := mk ((by rw [hg]; exact Nat.ne_of_lt (blk_lt BKz2.out) : gbz1 ≠ gbz0)); replace BKz2 := mk (blk_below BKz2.out hb); clear hb hbox hg; obtain ⟨hcz12_0, hcz12_1, hcz12_2, hcz12_3, hfz12_0, hfz12_1, hfz12_2, hfz12_3⟩ := c4 BKz0.out; obtain ⟨Ao13, co13, eo13⟩ := Kd.R_slice HOz1.out; subst eo13))
 go_loopg [6] k (fun kq v6 w' => ∃ (x6_1 : Int) (xz0 : List Int) (u119010003 : Value), v6 = .int .i64 x6_1 ∧ Aside0 (spec_flatten.l0 kq l1 x6_1 tz0 tz1 tz2 xz0 = some (r1, r2, r3, r4)) ∧ Aside0 (kq ≤ k) ∧ Aside0 (Kd.R (Kd.int .i64) 3 w' w.heap.size (fun _ => True) u119010003 xz0) ∧ Aside0 (w'.heap[gbz2]? = some (.cells #[.int .i64 a0_0, .int .i64 a0_1, .int .i64 a0_2, (.slice A0_3 l0_3.length c0_3)] 27 (0, 0))) ∧ Aside0 (w'.heap[gbz1]? = some (.cells #[.int .i64 0, .int .i64 0, .int .i64 0, (.slice none 0 0)] 27 (0, 0))) ∧ Aside0 (w'.heap[gbz0]? = some (.cells #[.int .i64 tz0, .int .i64 tz1, .int .i64 tz2, u119010003] 27 (0, 0))) ∧ Aside0 (Below w.heap.size w w'))
 case atStart => exact ⟨(0), (tz4), (.slice Ao13 tz4.length co13), (by rfl), H', ⟨Nat.le_refl _⟩, ⟨by exact Kd.R_mono (Kd.R_far (p := ⟨gbz0, 3, none⟩) (Kd.R_far (p := ⟨gbz0, 2, none⟩) (Kd.R_far (p := ⟨gbz0, 1, none⟩) (Kd.R_far (p := ⟨gbz0, 0, none⟩) (Kd.R_types HOz1.out BKz0.out (by decide)) (fun _ hk => hk.2) (.int .i64 tz0)) (fun _ hk => hk.2) (.int .i64 tz1)) (fun _ hk => hk.2) (.int .i64 tz2)) (fun _ hk => hk.2) (.slice Ao13 tz4.length co13)) (fun _ hk => trivial)⟩, ⟨by refine blk_far ?_ NBz0.out _; refine blk_far ?_ NBz0.out _; refine blk_far ?_ NBz0.out _; refine blk_far ?_ NBz0.out _; exact BKz1.out⟩, ⟨by refine blk_far ?_ NBz1.out _; refine blk_far ?_ NBz1.out _; refine blk_far ?_ NBz1.out _; refine blk_far ?_ NBz1.out _; exact BKz2.out⟩, ⟨by refine blk_put (cs := #[.int .i64 tz0, .int .i64 tz1, .int .i64 tz2, .slice none 0 0]) ?_ 3 _ rfl; refine blk_put (cs := #[.int .i64 tz0, .int .i64 tz1, .int .i64 0, .slice none 0 0]) ?_ 2 _ rfl; refine blk_put (cs := #[.int .i64 tz0, .int .i64 0, .int .i64 0, .slice none 0 0]) ?_ 1 _ rfl; refine blk_put (cs := #[.int .i64 0, .int .i64 0, .int .i64 0, .slice none 0 0]) ?_ 0 _ rfl; exact BKz0.out⟩, ⟨by repeat (with_reducible first | exact HB.out | refine below_set ?_ GEz1.out)⟩⟩
 case round =>
  clear H'
  obtain ⟨x6_1, xz0, u119010003, rfl, HA, HK1, HOz0, BKz1, BKz2, BKz0, HB⟩ := hrel
  cases gk with
  | zero => exact absurd HA.out (by simp [spec_flatten.l0])
  | succ k1 =>
   have H := HA.out
   clear HA
   simp only [spec_flatten.l0] at H
   by_cases c14 : x6_1 < (l1.length : Int)
   ·rw [if_pos c14] at H
    have c14b0 : decide (x6_1 < (l1.length : Int)) = true := decide_eq_true c14
    clear c14
    by_cases c15 : 0 ≤ x6_1
    ·rw [if_pos c15] at H
     have c15b0 : decide (0 ≤ x6_1) = true := decide_eq_true c15
     clear c15
     obtain ⟨bq16, hbq16⟩ : ∃ b_ : Bool, b_ = ((rd_T55 l1 x6_1).f5) := ⟨_, rfl⟩
     replace H : (if (bq16 = true) then (spec_flatten.l0 k1 l1 (wrap64 (x6_1 + 1)) tz0 tz1 tz2 xz0) else ((spec_blendPaste.f k1 tz0 tz1 tz2 xz0 ((rd_T55 l1 x6_1).f0.f0) ((rd_T55 l1 x6_1).f0.f1) ((rd_T55 l1 x6_1).f0.f2) ((rd_T55 l1 x6_1).f0.f3) ((rd_T55 l1 x6_1).f1) ((rd_T55 l1 x6_1).f2) ((rd_T55 l1 x6_1).f3) ((rd_T55 l1 x6_1).f4) bq16).bind fun tz3 => (spec_flatten.l0 k1 l1 (wrap64 (x6_1 + 1)) tz0 tz1 tz2 tz3))) = some (r1, r2, r3, r4) := by rw [← hbq16] at H; exact H
     have Nbq16 := mk hbq16
     clear hbq16
     by_cases c17 : (bq16 = true)
     ·subst c17
      have H1 : (spec_flatten.l0 k1 l1 (wrap64 (x6_1 + 1)) tz0 tz1 tz2 xz0) = some (r1, r2, r3, r4) := by rw [if_pos rfl] at H; exact H
      clear H
      have H := H1
      clear H1
      have H' := mk H
      clear H
      have p119010 : 0 ≤ (x6_1 : Int) := of_decide_eq_true (by (with_reducible assumption))
      have q119010 : x6_1 < (l1.length : Int) := of_decide_eq_true (by (with_reducible assumption))
      obtain ⟨ad119010, Az1, cz1, e119010, hx119010_0, hx119010_1, hx119010_2, hx119010_3, hx119010_4, hx119010_5, hx119010_6, hx119010_7, hx119010_8, hl119010_3, hi119010_3⟩ := at_T55 HR1.out x6_1 p119010 q119010
      (try rw [← Nbq16.out] at hx119010_8)
      cases e119010
      replace hx119010_0 := bc HB.out hx119010_0
      replace hx119010_1 := bc HB.out hx119010_1
      replace hx119010_2 := bc HB.out hx119010_2
      replace hx119010_3 := bc HB.out hx119010_3
      replace hx119010_4 := bc HB.out hx119010_4
      replace hx119010_5 := bc HB.out hx119010_5
      replace hx119010_6 := bc HB.out hx119010_6
      replace hx119010_7 := bc HB.out hx119010_7
      replace hx119010_8 := bc HB.out hx119010_8
      have HR119010_3 := mk hi119010_3
      have HC119010_3 := mk hl119010_3
      clear hi119010_3 hl119010_3
      replace p119010 := eq_true p119010
      replace q119010 := eq_true q119010
      go_wp2
      go_roundg k1
      case measure => have := HK1.out; omega
      case rel => exact ⟨(wrap64 (x6_1 + 1)), (xz0), (u119010003), (by rfl), H', ⟨by have := HK1.out; omega⟩, HOz0, BKz1, BKz2, BKz0, HB⟩
     replace c17 := Bool.eq_false_iff.mpr c17
     subst c17
     have H1 : ((spec_blendPaste.f k1 tz0 tz1 tz2 xz0 ((rd_T55 l1 x6_1).f0.f0) ((rd_T55 l1 x6_1).f0.f1) ((rd_T55 l1 x6_1).f0.f2) ((rd_T55 l1 x6_1).f0.f3) ((rd_T55 l1 x6_1).f1) ((rd_T55 l1 x6_1).f2) ((rd_T55 l1 x6_1).f3) ((rd_T55 l1 x6_1).f4) false).bind fun tz3 => (spec_flatten.l0 k1 l1 (wrap64 (x6_1 + 1)) tz0 tz1 tz2 tz3)) = some (r1, r2, r3, r4) := by rw [if_neg (show ¬ (false = true) by decide)] at H; exact H
     clear H
     have H := H1
     clear H1
     replace H := Option.bind_eq_some_iff.mp H
     obtain ⟨tz3, A180, H⟩ := H
     replace H : (spec_flatten.l0 k1 l1 (wrap64 (x6_1 + 1)) tz0 tz1 tz2 tz3) = some (r1, r2, r3, r4) := H
     have A18 := mk A180
     clear A180
     have H' := mk H
     clear H
     have p119010 : 0 ≤ (x6_1 : Int) := of_decide_eq_true (by (with_reducible assumption))
     have q119010 : x6_1 < (l1.length : Int) := of_decide_eq_true (by (with_reducible assumption))
     obtain ⟨ad119010, Az1, cz1, e119010, hx119010_0, hx119010_1, hx119010_2, hx119010_3, hx119010_4, hx119010_5, hx119010_6, hx119010_7, hx119010_8, hl119010_3, hi119010_3⟩ := at_T55 HR1.out x6_1 p119010 q119010
     (try rw [← Nbq16.out] at hx119010_8)
     cases e119010
     replace hx119010_0 := bc HB.out hx119010_0
     replace hx119010_1 := bc HB.out hx119010_1
     replace hx119010_2 := bc HB.out hx119010_2
     replace hx119010_3 := bc HB.out hx119010_3
     replace hx119010_4 := bc HB.out hx119010_4
     replace hx119010_5 := bc HB.out hx119010_5
     replace hx119010_6 := bc HB.out hx119010_6
     replace hx119010_7 := bc HB.out hx119010_7
     replace hx119010_8 := bc HB.out hx119010_8
     have HR119010_3 := mk hi119010_3
     have HC119010_3 := mk hl119010_3
     clear hi119010_3 hl119010_3
     replace p119010 := eq_true p119010
     replace q119010 := eq_true q119010
     try go_wp2
     replace HOz0 := mk (Kd.R_drew HOz0.out)
     replace BKz1 := mk (blk_drew BKz1.out)
     replace BKz2 := mk (blk_drew BKz2.out)
     replace BKz0 := mk (blk_drew BKz0.out)
     replace HB := mk (below_drew1 HB.out)
     have p119011 : 0 ≤ (x6_1 : Int) := of_decide_eq_true (by (with_reducible assumption))
     have q119011 : x6_1 < (l1.length : Int) := of_decide_eq_true (by (with_reducible assumption))
     obtain ⟨ad119011, Az0, cz0, e119011, hx119011_0, hx119011_1, hx119011_2, hx119011_3, hx119011_4, hx119011_5, hx119011_6, hx119011_7, hx119011_8, hl119011_3, hi119011_3⟩ := at_T55 HR1.out x6_1 p119011 q119011
     have hw119011_8 := hx119011_8
     have hw119011_7 := hx119011_7
     have hw119011_6 := hx119011_6
     have hw119011_5 := hx119011_5
     have hw119011_4 := hx119011_4
     have hw119011_3 := hx119011_3
     have hw119011_2 := hx119011_2
     have hw119011_1 := hx119011_1
     have hw119011_0 := hx119011_0
     (try rw [← Nbq16.out] at hx119011_8); (try rw [← Nbq16.out] at hw119011_8)
     obtain rfl : ad119010 = ad119011 := (by injection e119011)
     replace hx119011_0 := bc HB.out hx119011_0
     replace hx119011_1 := bc HB.out hx119011_1
     replace hx119011_2 := bc HB.out hx119011_2
     replace hx119011_3 := bc HB.out hx119011_3
     replace hx119011_4 := bc HB.out hx119011_4
     replace hx119011_5 := bc HB.out hx119011_5
     replace hx119011_6 := bc HB.out hx119011_6
     replace hx119011_7 := bc HB.out hx119011_7
     replace hx119011_8 := bc HB.out hx119011_8
     have HR119011_3 := mk hi119011_3
     have HC119011_3 := mk hl119011_3
     clear hi119011_3 hl119011_3
     replace p119011 := eq_true p119011
     replace q119011 := eq_true q119011
     obtain ⟨Ao20, co20, eo20⟩ := Kd.R_slice HOz0.out
     (subst eo20)
     refine start_ (n := 6) (S := fun w' => w'.cell? ⟨gbz0, 0, none⟩ = some (.int .i64 tz0) ∧ w'.cell? ⟨gbz0, 1, none⟩ = some (.int .i64 tz1) ∧ w'.cell? ⟨gbz0, 2, none⟩ = some (.int .i64 tz2) ∧ w'.cell? ⟨gbz0, 3, none⟩ = some (.slice Ao20 xz0.length co20) ∧ w'.cell? (ad119010.add ((x6_1).toNat * 9)) = some (.int .i64 ((rd_T55 l1 x6_1).f0.f0)) ∧ w'.cell? ⟨(ad119010.add ((x6_1).toNat * 9)).block, (ad119010.add ((x6_1).toNat * 9)).off + 1, none⟩ = some (.int .i64 ((rd_T55 l1 x6_1).f0.f1)) ∧ w'.cell? ⟨(ad119010.add ((x6_1).toNat * 9)).block, (ad119010.add ((x6_1).toNat * 9)).off + 2, none⟩ = some (.int .i64 ((rd_T55 l1 x6_1).f0.f2)) ∧ w'.cell? ⟨(ad119010.add ((x6_1).toNat * 9)).block, (ad119010.add ((x6_1).toNat * 9)).off + 3, none⟩ = some (.slice Az0 ((rd_T55 l1 x6_1).f0.f3).length cz0) ∧ w'.cell? ⟨(ad119010.add ((x6_1).toNat * 9)).block, (ad119010.add ((x6_1).toNat * 9)).off + 4, none⟩ = some (.int .i64 ((rd_T55 l1 x6_1).f1)) ∧ w'.cell? ⟨(ad119010.add ((x6_1).toNat * 9)).block, (ad119010.add ((x6_1).toNat * 9)).off + 5, none⟩ = some (.int .i64 ((rd_T55 l1 x6_1).f2)) ∧ w'.cell? ⟨(ad119010.add ((x6_1).toNat * 9)).block, (ad119010.add ((x6_1).toNat * 9)).off + 6, none⟩ = some (.int .i64 ((rd_T55 l1 x6_1).f3)) ∧ w'.cell? ⟨(ad119010.add ((x6_1).toNat * 9)).block, (ad119010.add ((x6_1).toNat * 9)).off + 7, none⟩ = some (.int .i64 ((rd_T55 l1 x6_1).f4)) ∧ w'.cell? ⟨(ad119010.add ((x6_1).toNat * 9)).block, (ad119010.add ((x6_1).toNat * 9)).off + 8, none⟩ = some (.bool false)) (ds := []) #[false, false, false, false, false, false] (by kernel_rfl) rfl rfl ⟨blk_cell BKz0.out 0, blk_cell BKz0.out 1, blk_cell BKz0.out 2, blk_cell BKz0.out 3, bc HB.out hw119011_0, bc HB.out hw119011_1, bc HB.out hw119011_2, bc HB.out hw119011_3, bc HB.out hw119011_4, bc HB.out hw119011_5, bc HB.out hw119011_6, bc HB.out hw119011_7, bc HB.out hw119011_8⟩ (fun hHeld => ?_)
     generalize wr.drew = w19 at HOz0 BKz1 BKz2 BKz0 HB HR119011_3 hx119011_0 hx119011_1 hx119011_2 hx119011_3 hx119011_4 hx119011_5 hx119011_6 hx119011_7 hx119011_8 hHeld ⊢
     refine pure_ (i := 1) (N := some 22) (v := ?_) (a' := ?_) #[false, true, false, false, false, false] rfl rfl (by kernel_rfl) (fun _ _ _ h => h) (Or.inl ⟨by rfl, ?_⟩) ?_ ?_
     rotate_left
     ·intro w'
      go_simp
      with_reducible rfl
     rotate_left
     ·simp only [Act.put, List.setIfInBounds_toArray, List.set_cons_zero, List.set_cons_succ, i64_w, i32_w]
      rfl
     refine pure_ (i := 2) (N := some 23) (v := ?_) (a' := ?_) #[false, true, true, false, false, false] rfl rfl (by kernel_rfl) (fun _ _ _ h => h) (Or.inl ⟨by rfl, ?_⟩) ?_ ?_
     rotate_left
     ·intro w'
      go_simp
      with_reducible rfl
     rotate_left
     ·simp only [Act.put, List.setIfInBounds_toArray, List.set_cons_zero, List.set_cons_succ, i64_w, i32_w]
      rfl
     refine pure_ (i := 3) (N := some 24) (v := ?_) (a' := ?_) #[false, true, true, true, false, false] rfl rfl (by kernel_rfl) (fun _ _ _ h => h) (Or.inl ⟨by rfl, ?_⟩) ?_ ?_
     rotate_left
     ·intro w'
      go_simp
      with_reducible rfl
     rotate_left
     ·simp only [Act.put, List.setIfInBounds_toArray, List.set_cons_zero, List.set_cons_succ, i64_w, i32_w]
      rfl
     refine take_ (i := 0) (N := some 21) (v := ?_) (a' := ?_) #[true, true, true, true, false, false] rfl rfl (by kernel_rfl) (fun _ _ _ h => h) (Or.inl ⟨by rfl, ?_⟩) hHeld ?_ ?_
     rotate_left
     ·rintro w' ⟨s0, s1, s2, s3, s4, s5, s6, s7, s8, s9, s10, s11, s12⟩
      go_simp
      with_reducible rfl
     rotate_left
     ·simp only [Act.put, List.setIfInBounds_toArray, List.set_cons_zero, List.set_cons_succ, i64_w, i32_w]
      rfl
     refine take_ (i := 4) (N := some 25) (v := ?_) (a' := ?_) #[true, true, true, true, true, false] rfl rfl (by kernel_rfl) (fun _ _ _ h => h) (Or.inl ⟨by rfl, ?_⟩) hHeld ?_ ?_
     rotate_left
     ·rintro w' ⟨s0, s1, s2, s3, s4, s5, s6, s7, s8, s9, s10, s11, s12⟩
      go_simp
      with_reducible rfl
     rotate_left
     ·simp only [Act.put, List.setIfInBounds_toArray, List.set_cons_zero, List.set_cons_succ, i64_w, i32_w]
      rfl
     refine one_ (i := 5) (N := some 26) #[true, true, true, true, true, true] rfl rfl (by kernel_rfl) (by decide) (fun K hK => ?_)
     refine goes_ Try.func114 (by kernel_rfl) rfl #[.agg #[.int .i64 tz0, .int .i64 tz1, .int .i64 tz2, .slice Ao20 xz0.length co20], .agg #[.int .i64 ((rd_T55 l1 x6_1).f0.f0), .int .i64 ((rd_T55 l1 x6_1).f0.f1), .int .i64 ((rd_T55 l1 x6_1).f0.f2), .slice Az0 ((rd_T55 l1 x6_1).f0.f3).length cz0, .int .i64 ((rd_T55 l1 x6_1).f1), .int .i64 ((rd_T55 l1 x6_1).f2), .int .i64 ((rd_T55 l1 x6_1).f3), .int .i64 ((rd_T55 l1 x6_1).f4), .bool false]] (by rfl) rfl rfl (by (try simp only [List.map_toArray, List.map_cons, List.map_nil]); rfl) ?_
     with_reducible refine (spec_blendPaste.calls k1 tz0 tz1 tz2 (fun k_ => some k_ = (.slice Ao20 xz0.length co20 : Value).ownBlock) (.slice Ao20 xz0.length co20) xz0 ((rd_T55 l1 x6_1).f0.f0) ((rd_T55 l1 x6_1).f0.f1) ((rd_T55 l1 x6_1).f0.f2) _ _ ((rd_T55 l1 x6_1).f0.f3) ((rd_T55 l1 x6_1).f1) ((rd_T55 l1 x6_1).f2) ((rd_T55 l1 x6_1).f3) ((rd_T55 l1 x6_1).f4) false tz3 w _ ?side1 ?side2 ?side3 ?side4 A18.out).mono ?_
     (case side1 => repeat (with_reducible exact HB.out))
     (case side2 => exact Kd.R_tight rfl HOz0.out)
     (case side3 => exact Kd.C_kept_came (Kd.heap_int .i64) HR119011_3.out HB.out (fun k_ hs_ => (fun e_ => Kd.R_base HOz0.out k_ e_.symm) hs_))
     (case side4 => exact HC119011_3.out)
     rintro e w21 ⟨rfl, hy0, hb, hkp⟩
     refine ⟨_, rfl, ?_⟩
     replace BKz1 := mk (blk_kept BKz1.out hkp (fun hs_ => (fun e_ => (Kd.R_ne HOz0.out BKz1.out (by decide)) e_) hs_))
     replace BKz2 := mk (blk_kept BKz2.out hkp (fun hs_ => (fun e_ => (Kd.R_ne HOz0.out BKz2.out (by decide)) e_) hs_))
     replace BKz0 := mk (blk_kept BKz0.out hkp (fun hs_ => (fun e_ => (Kd.R_ne HOz0.out BKz0.out (by decide)) e_) hs_))
     replace HOz0 := mk (Kd.R_reok rfl hy0 (fun k_ e_ => HOz0.out.1 k_ e_))
     replace HB := mk (hb)
     (try clear hb)
     (try clear hkp)
     (try clear hy0)
     refine hK.out _ _ ⟨blk_cell BKz0.out 0, blk_cell BKz0.out 1, blk_cell BKz0.out 2, blk_cell BKz0.out 3, bc HB.out hw119011_0, bc HB.out hw119011_1, bc HB.out hw119011_2, bc HB.out hw119011_3, bc HB.out hw119011_4, bc HB.out hw119011_5, bc HB.out hw119011_6, bc HB.out hw119011_7, bc HB.out hw119011_8⟩ (fun hHeld => ?_)
     clear hK K
     refine norm_ (a' := ?_) ?_ ?_
     rotate_left
     ·show Act.put _ (some 26) _ = _
      simp only [Act.put, List.setIfInBounds_toArray, List.set_cons_zero, List.set_cons_succ, i64_w, i32_w]
      rfl
     refine done_ (by kernel_rfl) ?_
     try go_wp2
     go_roundg k1
     case measure => have := HK1.out; omega
     case rel => exact ⟨(wrap64 (x6_1 + 1)), (tz3), (.slice Ao20 xz0.length co20), (by rfl), H', ⟨by have := HK1.out; omega⟩, HOz0, BKz1, BKz2, BKz0, HB⟩
    rw [if_neg c15] at H
    exact absurd H (by simp)
   rw [if_neg c14] at H
   have c14b0 : decide (x6_1 < (l1.length : Int)) = false := decide_eq_false c14
   clear c14
   simp only [Option.some.injEq, Prod.mk.injEq] at H
   obtain ⟨rfl, rfl, rfl, rfl⟩ := H
   obtain ⟨hcz24_0, hcz24_1, hcz24_2, -⟩ := c4 BKz0.out
   have hcz24_3 : wr.cell? ⟨gbz0, 3, none⟩ = some u119010003 := (blk_cell BKz0.out 3).trans rfl
   obtain ⟨hcz26_0, hcz26_1, hcz26_2, hcz26_3, hfz26_0, hfz26_1, hfz26_2, hfz26_3⟩ := c4 BKz2.out
   obtain ⟨Ao27, co27, eo27⟩ := Kd.R_slice HOz0.out
   subst eo27
   go_wp2
   refine bodyPost_ret (results_cell_row rfl _ _ gbz1 27 #[.int .i64 tz0, .int .i64 tz1, .int .i64 tz2, .slice Ao27 xz0.length co27] (0, 0) _ rfl (by refine blk_put (cs := #[.int .i64 tz0, .int .i64 tz1, .int .i64 tz2, .slice none 0 0]) ?_ 3 _ rfl; refine blk_put (cs := #[.int .i64 tz0, .int .i64 tz1, .int .i64 0, .slice none 0 0]) ?_ 2 _ rfl; refine blk_put (cs := #[.int .i64 tz0, .int .i64 0, .int .i64 0, .slice none 0 0]) ?_ 1 _ rfl; refine blk_put (cs := #[.int .i64 0, .int .i64 0, .int .i64 0, .slice none 0 0]) ?_ 0 _ rfl; exact BKz2.out) Try.underlying27 rfl (by kernel_rfl)) rfl ?_
   exact ⟨_, by rfl, by exact Kd.R_mono (Kd.R_far (p := ⟨gbz1, 3, none⟩) (Kd.R_far (p := ⟨gbz1, 2, none⟩) (Kd.R_far (p := ⟨gbz1, 1, none⟩) (Kd.R_far (p := ⟨gbz1, 0, none⟩) (Kd.R_types HOz0.out BKz2.out (by decide)) (fun _ hk => hk.2) (.int .i64 tz0)) (fun _ hk => hk.2) (.int .i64 tz1)) (fun _ hk => hk.2) (.int .i64 tz2)) (fun _ hk => hk.2) (.slice Ao27 xz0.length co27)) (fun _ hk => trivial), by repeat (with_reducible first | exact HB.out | refine below_set ?_ GEz0.out)⟩


def spec_FlattenLayers.f (k : Nat) (a0_0 : Int) (a0_1 : Int) (a0_2 : Int) (l0_3 : List Int) (l1 : List S55) : Option (Int × Int × Int × List Int × Bool) := (spec_validImage.f k a0_0 a0_1 a0_2 l0_3).bind fun tz2 => (if tz2 = true then ((spec_validLayers.f k l1 a0_2).bind fun tz0 => (if tz0 = true then ((spec_flatten.f k a0_0 a0_1 a0_2 l0_3 l1).bind fun btz0 => (some (btz0.1, btz0.2.1, btz0.2.2.1, btz0.2.2.2, true))) else (some (0, 0, 0, ([] : List Int), false)))) else (some (0, 0, 0, ([] : List Int), false)))
theorem spec_FlattenLayers.mono : ∀ a0 a1 a2 a3 a4 k, LeO (spec_FlattenLayers.f k a0 a1 a2 a3 a4) (spec_FlattenLayers.f (k + 1) a0 a1 a2 a3 a4) := by
 intro a0 a1 a2 a3 a4 k
 unfold spec_FlattenLayers.f
 repeat' first | (with_reducible exact spec_flatten.mono _ _ _ _ _ _) | (with_reducible exact spec_validImage.mono _ _ _ _ _) | (with_reducible exact spec_validLayers.mono _ _ _) | (with_reducible exact LeO.refl _) | (with_reducible refine LeO.ite ?_ ?_) | (with_reducible refine LeO.bind ?_ (fun _ => ?_))
set_option maxHeartbeats 8000000 in
set_option maxRecDepth 100000 in
theorem spec_FlattenLayers.calls (k : Nat) (a0_0 : Int) (a0_1 : Int) (a0_2 : Int) (A0_3 : Option Addr) (c0_3 : Nat) (l0_3 : List Int) (A1 : Option Addr) (c1 : Nat) (l1 : List S55) (r1 : Int) (r2 : Int) (r3 : Int) (r4 : List Int) (r5 : Bool) (w : World) (hr0_3 : Kd.C (Kd.int .i64) w A0_3 l0_3.length l0_3) (hc0_3 : l0_3.length ≤ c0_3) (hr1 : Kd.C k55 w A1 l1.length l1) (hc1 : l1.length ≤ c1) (h : spec_FlattenLayers.f k a0_0 a0_1 a0_2 l0_3 l1 = some (r1, r2, r3, r4, r5)) :
  Calls Try.prog 65 #[.agg #[.int .i64 a0_0, .int .i64 a0_1, .int .i64 a0_2, .slice A0_3 l0_3.length c0_3], .slice A1 l1.length c1] w fun e w' => ∃ v3_ : Value, e = .returned (.tuple #[.agg #[.int .i64 r1, .int .i64 r2, .int .i64 r3, v3_], .bool r5]) ∧ Kd.R (Kd.int .i64) 3 w' w.heap.size (fun _ => True) v3_ r4 ∧ Below w.heap.size w w' := by
 have hu27 := Try.underlying27
 have HR0_3 := mk hr0_3
 have HC0_3 := mk hc0_3
 clear hr0_3 hc0_3
 have HR1 := mk hr1
 have HC1 := mk hc1
 clear hr1 hc1
 have HB := mk (Below.refl w.heap.size w)
 have H : ((spec_validImage.f k a0_0 a0_1 a0_2 l0_3).bind fun tz2 => (if tz2 = true then ((spec_validLayers.f k l1 a0_2).bind fun tz0 => (if tz0 = true then ((spec_flatten.f k a0_0 a0_1 a0_2 l0_3 l1).bind fun btz0 => (some (btz0.1, btz0.2.1, btz0.2.2.1, btz0.2.2.2, true))) else (some (0, 0, 0, ([] : List Int), false)))) else (some (0, 0, 0, ([] : List Int), false)))) = some (r1, r2, r3, r4, r5) := h
 clear h
 replace H := Option.bind_eq_some_iff.mp H
 obtain ⟨tz2, A30, H⟩ := H
 replace H : (if tz2 = true then ((spec_validLayers.f k l1 a0_2).bind fun tz0 => (if tz0 = true then ((spec_flatten.f k a0_0 a0_1 a0_2 l0_3 l1).bind fun btz0 => (some (btz0.1, btz0.2.1, btz0.2.2.1, btz0.2.2.2, true))) else (some (0, 0, 0, ([] : List Int), false)))) else (some (0, 0, 0, ([] : List Int), false))) = some (r1, r2, r3, r4, r5) := H
 have A3 := mk A30
 clear A30
 by_cases c4 : tz2 = true
 ·subst c4
  have H1 : ((spec_validLayers.f k l1 a0_2).bind fun tz0 => (if tz0 = true then ((spec_flatten.f k a0_0 a0_1 a0_2 l0_3 l1).bind fun btz0 => (some (btz0.1, btz0.2.1, btz0.2.2.1, btz0.2.2.2, true))) else (some (0, 0, 0, ([] : List Int), false)))) = some (r1, r2, r3, r4, r5) := by rw [if_pos rfl] at H; exact H
  clear H
  have H := H1
  clear H1
  replace H := Option.bind_eq_some_iff.mp H
  obtain ⟨tz0, A50, H⟩ := H
  replace H : (if tz0 = true then ((spec_flatten.f k a0_0 a0_1 a0_2 l0_3 l1).bind fun btz0 => (some (btz0.1, btz0.2.1, btz0.2.2.1, btz0.2.2.2, true))) else (some (0, 0, 0, ([] : List Int), false))) = some (r1, r2, r3, r4, r5) := H
  have A5 := mk A50
  clear A50
  by_cases c6 : tz0 = true
  ·subst c6
   have H1 : ((spec_flatten.f k a0_0 a0_1 a0_2 l0_3 l1).bind fun btz0 => (some (btz0.1, btz0.2.1, btz0.2.2.1, btz0.2.2.2, true))) = some (r1, r2, r3, r4, r5) := by rw [if_pos rfl] at H; exact H
   clear H
   have H := H1
   clear H1
   replace H := Option.bind_eq_some_iff.mp H
   obtain ⟨⟨tz1, tz3, tz4, tz5⟩, A70, H⟩ := H
   replace H : (some (tz1, tz3, tz4, tz5, true)) = some (r1, r2, r3, r4, r5) := H
   have A7 := mk A70
   clear A70
   simp only [Option.some.injEq, Prod.mk.injEq] at H
   obtain ⟨rfl, rfl, rfl, rfl, rfl⟩ := H
   go_enter Try.func65, Try.ntmps65
   go_wp2_with (first | ((with_reducible refine gate_dst (N := 2) rfl ?_); refine box_event (by rfl) (N := 2) (by rfl) (cs := #[.int .i64 a0_0, .int .i64 a0_1, .int .i64 a0_2, .slice A0_3 l0_3.length c0_3]) (t := 27) (by go_simp; done) ?_; intro gbz1 hg w8 hbox hb; replace HB := mk (below_step HB.out hb); have BKz1 := mk (hbox); clear hb hbox hg) | ((with_reducible refine gate_dst (N := 4) rfl ?_); refine box_event (by rfl) (N := 4) (by rfl) (cs := #[.int .i64 0, .int .i64 0, .int .i64 0, .slice none 0 0]) (t := 27) (by go_simp; done) ?_; intro gbz0 hg w9 hbox hb; replace BKz1 := mk (blk_below BKz1.out hb); have BKz0 := mk (hbox); have GEz0 := mk ((by rw [hg]; exact (below_size HB.out) : w.heap.size ≤ gbz0)); replace HB := mk (below_step HB.out hb); clear hb hbox hg; obtain ⟨hcz11_0, hcz11_1, hcz11_2, -⟩ := c4 BKz1.out; have hcz11_3 : w9.cell? ⟨gbz1, 3, none⟩ = some (.slice A0_3 l0_3.length c0_3) := (blk_cell BKz1.out 3).trans rfl) | ((with_reducible refine gate_callee (f := 89) rfl ?_); refine goesL_ (some 7) rfl rfl Try.func89 (by kernel_rfl) rfl #[.agg #[.int .i64 a0_0, .int .i64 a0_1, .int .i64 a0_2, .slice A0_3 l0_3.length c0_3]] rfl (by (try simp only [List.map_toArray, List.map_cons, List.map_nil]); rfl) ?_; (with_reducible refine (spec_validImage.calls k a0_0 a0_1 a0_2 _ _ l0_3 true _ ?side1 ?side2 A3.out).mono ?_); (case side1 => repeat (exact (Kd.C_below HR0_3.out HB.out))); (case side2 => exact HC0_3.out); rintro e w12 ⟨rfl, hb⟩; refine ⟨_, rfl, ?_⟩; replace BKz1 := mk (blk_below BKz1.out hb); replace BKz0 := mk (blk_below BKz0.out hb); replace HB := mk (below_step HB.out hb); (try clear hb); have hcz13_2 : w12.cell? ⟨gbz1, 2, none⟩ = some (.int .i64 a0_2) := (blk_cell BKz1.out 2).trans rfl) | (go_at_call 117; (with_reducible refine (spec_validLayers.calls k _ _ l1 a0_2 true _ ?side1 ?side2 A5.out).mono ?_); (case side1 => repeat (exact (Kd.C_below HR1.out HB.out))); (case side2 => exact HC1.out); rintro e w14 ⟨rfl, hb⟩; replace BKz1 := mk (blk_below BKz1.out hb); replace BKz0 := mk (blk_below BKz0.out hb); replace HB := mk (below_step HB.out hb); (try clear hb); obtain ⟨hcz15_0, hcz15_1, hcz15_2, -⟩ := c4 BKz1.out; have hcz15_3 : w14.cell? ⟨gbz1, 3, none⟩ = some (.slice A0_3 l0_3.length c0_3) := (blk_cell BKz1.out 3).trans rfl) | ((with_reducible refine gate_callee (f := 118) rfl ?_); refine goesL_ (some 19) rfl rfl Try.func118 (by kernel_rfl) rfl #[.agg #[.int .i64 a0_0, .int .i64 a0_1, .int .i64 a0_2, .slice A0_3 l0_3.length c0_3], .slice A1 l1.length c1] rfl (by (try simp only [List.map_toArray, List.map_cons, List.map_nil]); rfl) ?_; (with_reducible refine (spec_flatten.calls k a0_0 a0_1 a0_2 _ _ l0_3 _ _ l1 tz1 tz3 tz4 tz5 _ ?side1 ?side2 ?side3 ?side4 A7.out).mono ?_); (case side1 => repeat (exact (Kd.C_below HR0_3.out HB.out))); (case side2 => exact HC0_3.out); (case side3 => repeat (exact (Kd.C_below HR1.out HB.out))); (case side4 => exact HC1.out); rintro e w16 ⟨vz0, rfl, ho0, hb⟩; refine ⟨_, rfl, ?_⟩; have n0_ := mk (Kd.R_lower ho0 (below_size HB.out)); have n2_ := mk (blk_below BKz0.out hb); have n3_ := mk (below_step HB.out hb); clear BKz1; clear BKz0; clear HB; have HOz0 := n0_; have BKz0 := n2_; have HB := n3_; (try clear hb); (try clear ho0); obtain ⟨hcz17_0, hcz17_1, hcz17_2, hcz17_3, hfz17_0, hfz17_1, hfz17_2, hfz17_3⟩ := c4 BKz0.out; obtain ⟨Ao18, co18, eo18⟩ := Kd.R_slice HOz0.out; subst eo18))
   refine bodyPost_ret (results_ct rfl _ _ gbz0 27 #[.int .i64 tz1, .int .i64 tz3, .int .i64 tz4, .slice Ao18 tz5.length co18] (0, 0) _ rfl (by refine blk_put (cs := #[.int .i64 tz1, .int .i64 tz3, .int .i64 tz4, .slice none 0 0]) ?_ 3 _ rfl; refine blk_put (cs := #[.int .i64 tz1, .int .i64 tz3, .int .i64 0, .slice none 0 0]) ?_ 2 _ rfl; refine blk_put (cs := #[.int .i64 tz1, .int .i64 0, .int .i64 0, .slice none 0 0]) ?_ 1 _ rfl; refine blk_put (cs := #[.int .i64 0, .int .i64 0, .int .i64 0, .slice none 0 0]) ?_ 0 _ rfl; exact BKz0.out) Try.underlying27 rfl (by kernel_rfl)) rfl ?_
   exact ⟨_, by rfl, by exact Kd.R_mono (Kd.R_far (p := ⟨gbz0, 3, none⟩) (Kd.R_far (p := ⟨gbz0, 2, none⟩) (Kd.R_far (p := ⟨gbz0, 1, none⟩) (Kd.R_far (p := ⟨gbz0, 0, none⟩) (Kd.R_types HOz0.out BKz0.out (by decide)) (fun _ hk => hk.2) (.int .i64 tz1)) (fun _ hk => hk.2) (.int .i64 tz3)) (fun _ hk => hk.2) (.int .i64 tz4)) (fun _ hk => hk.2) (.slice Ao18 tz5.length co18)) (fun _ hk => trivial), by repeat (with_reducible first | exact HB.out | refine below_set ?_ GEz0.out)⟩
  replace c6 := Bool.eq_false_iff.mpr c6
  subst c6
  have H1 : (some (0, 0, 0, ([] : List Int), false)) = some (r1, r2, r3, r4, r5) := by rw [if_neg (show ¬ (false = true) by decide)] at H; exact H
  clear H
  have H := H1
  clear H1
  simp only [Option.some.injEq, Prod.mk.injEq] at H
  obtain ⟨rfl, rfl, rfl, rfl, rfl⟩ := H
  go_enter Try.func65, Try.ntmps65
  go_wp2_with (first | ((with_reducible refine gate_dst (N := 2) rfl ?_); refine box_event (by rfl) (N := 2) (by rfl) (cs := #[.int .i64 a0_0, .int .i64 a0_1, .int .i64 a0_2, .slice A0_3 l0_3.length c0_3]) (t := 27) (by go_simp; done) ?_; intro gbz1 hg w19 hbox hb; replace HB := mk (below_step HB.out hb); have BKz1 := mk (hbox); clear hb hbox hg) | ((with_reducible refine gate_dst (N := 4) rfl ?_); refine box_event (by rfl) (N := 4) (by rfl) (cs := #[.int .i64 0, .int .i64 0, .int .i64 0, .slice none 0 0]) (t := 27) (by go_simp; done) ?_; intro gbz0 hg w20 hbox hb; replace BKz1 := mk (blk_below BKz1.out hb); have BKz0 := mk (hbox); have GEz0 := mk ((by rw [hg]; exact (below_size HB.out) : w.heap.size ≤ gbz0)); replace HB := mk (below_step HB.out hb); clear hb hbox hg; obtain ⟨hcz22_0, hcz22_1, hcz22_2, -⟩ := c4 BKz1.out; have hcz22_3 : w20.cell? ⟨gbz1, 3, none⟩ = some (.slice A0_3 l0_3.length c0_3) := (blk_cell BKz1.out 3).trans rfl) | ((with_reducible refine gate_callee (f := 89) rfl ?_); refine goesL_ (some 7) rfl rfl Try.func89 (by kernel_rfl) rfl #[.agg #[.int .i64 a0_0, .int .i64 a0_1, .int .i64 a0_2, .slice A0_3 l0_3.length c0_3]] rfl (by (try simp only [List.map_toArray, List.map_cons, List.map_nil]); rfl) ?_; (with_reducible refine (spec_validImage.calls k a0_0 a0_1 a0_2 _ _ l0_3 true _ ?side1 ?side2 A3.out).mono ?_); (case side1 => repeat (exact (Kd.C_below HR0_3.out HB.out))); (case side2 => exact HC0_3.out); rintro e w23 ⟨rfl, hb⟩; refine ⟨_, rfl, ?_⟩; replace BKz1 := mk (blk_below BKz1.out hb); replace BKz0 := mk (blk_below BKz0.out hb); replace HB := mk (below_step HB.out hb); (try clear hb); have hcz24_2 : w23.cell? ⟨gbz1, 2, none⟩ = some (.int .i64 a0_2) := (blk_cell BKz1.out 2).trans rfl) | (go_at_call 117; (with_reducible refine (spec_validLayers.calls k _ _ l1 a0_2 false _ ?side1 ?side2 A5.out).mono ?_); (case side1 => repeat (exact (Kd.C_below HR1.out HB.out))); (case side2 => exact HC1.out); rintro e w25 ⟨rfl, hb⟩; have n1_ := mk (blk_below BKz0.out hb); have n2_ := mk (below_step HB.out hb); clear BKz1; clear BKz0; clear HB; have BKz0 := n1_; have HB := n2_; (try clear hb); obtain ⟨hcz26_0, hcz26_1, hcz26_2, hcz26_3, hfz26_0, hfz26_1, hfz26_2, hfz26_3⟩ := c4 BKz0.out))
  refine bodyPost_ret (results_ct rfl _ _ gbz0 27 #[.int .i64 0, .int .i64 0, .int .i64 0, .slice none 0 0] (0, 0) _ rfl (by refine blk_put (cs := #[.int .i64 0, .int .i64 0, .int .i64 0, .slice none 0 0]) ?_ 3 _ rfl; refine blk_put (cs := #[.int .i64 0, .int .i64 0, .int .i64 0, .slice none 0 0]) ?_ 2 _ rfl; refine blk_put (cs := #[.int .i64 0, .int .i64 0, .int .i64 0, .slice none 0 0]) ?_ 1 _ rfl; refine blk_put (cs := #[.int .i64 0, .int .i64 0, .int .i64 0, .slice none 0 0]) ?_ 0 _ rfl; exact BKz0.out) Try.underlying27 rfl (by kernel_rfl)) rfl ?_
  exact ⟨_, by rfl, by exact Kd.R_nil _ _ _ _ _, by repeat (with_reducible first | exact HB.out | refine below_set ?_ GEz0.out)⟩
 replace c4 := Bool.eq_false_iff.mpr c4
 subst c4
 have H1 : (some (0, 0, 0, ([] : List Int), false)) = some (r1, r2, r3, r4, r5) := by rw [if_neg (show ¬ (false = true) by decide)] at H; exact H
 clear H
 have H := H1
 clear H1
 simp only [Option.some.injEq, Prod.mk.injEq] at H
 obtain ⟨rfl, rfl, rfl, rfl, rfl⟩ := H
 go_enter Try.func65, Try.ntmps65
 go_wp2_with (first | ((with_reducible refine gate_dst (N := 2) rfl ?_); refine box_event (by rfl) (N := 2) (by rfl) (cs := #[.int .i64 a0_0, .int .i64 a0_1, .int .i64 a0_2, .slice A0_3 l0_3.length c0_3]) (t := 27) (by go_simp; done) ?_; intro gbz1 hg w27 hbox hb; replace HB := mk (below_step HB.out hb); have BKz1 := mk (hbox); clear hb hbox hg) | ((with_reducible refine gate_dst (N := 4) rfl ?_); refine box_event (by rfl) (N := 4) (by rfl) (cs := #[.int .i64 0, .int .i64 0, .int .i64 0, .slice none 0 0]) (t := 27) (by go_simp; done) ?_; intro gbz0 hg w28 hbox hb; replace BKz1 := mk (blk_below BKz1.out hb); have BKz0 := mk (hbox); have GEz0 := mk ((by rw [hg]; exact (below_size HB.out) : w.heap.size ≤ gbz0)); replace HB := mk (below_step HB.out hb); clear hb hbox hg; obtain ⟨hcz30_0, hcz30_1, hcz30_2, -⟩ := c4 BKz1.out; have hcz30_3 : w28.cell? ⟨gbz1, 3, none⟩ = some (.slice A0_3 l0_3.length c0_3) := (blk_cell BKz1.out 3).trans rfl) | ((with_reducible refine gate_callee (f := 89) rfl ?_); refine goesL_ (some 7) rfl rfl Try.func89 (by kernel_rfl) rfl #[.agg #[.int .i64 a0_0, .int .i64 a0_1, .int .i64 a0_2, .slice A0_3 l0_3.length c0_3]] rfl (by (try simp only [List.map_toArray, List.map_cons, List.map_nil]); rfl) ?_; (with_reducible refine (spec_validImage.calls k a0_0 a0_1 a0_2 _ _ l0_3 false _ ?side1 ?side2 A3.out).mono ?_); (case side1 => repeat (exact (Kd.C_below HR0_3.out HB.out))); (case side2 => exact HC0_3.out); rintro e w31 ⟨rfl, hb⟩; refine ⟨_, rfl, ?_⟩; have n1_ := mk (blk_below BKz0.out hb); have n2_ := mk (below_step HB.out hb); clear BKz1; clear BKz0; clear HB; have BKz0 := n1_; have HB := n2_; (try clear hb); obtain ⟨hcz32_0, hcz32_1, hcz32_2, hcz32_3, hfz32_0, hfz32_1, hfz32_2, hfz32_3⟩ := c4 BKz0.out))
 refine bodyPost_ret (results_ct rfl _ _ gbz0 27 #[.int .i64 0, .int .i64 0, .int .i64 0, .slice none 0 0] (0, 0) _ rfl (by refine blk_put (cs := #[.int .i64 0, .int .i64 0, .int .i64 0, .slice none 0 0]) ?_ 3 _ rfl; refine blk_put (cs := #[.int .i64 0, .int .i64 0, .int .i64 0, .slice none 0 0]) ?_ 2 _ rfl; refine blk_put (cs := #[.int .i64 0, .int .i64 0, .int .i64 0, .slice none 0 0]) ?_ 1 _ rfl; refine blk_put (cs := #[.int .i64 0, .int .i64 0, .int .i64 0, .slice none 0 0]) ?_ 0 _ rfl; exact BKz0.out) Try.underlying27 rfl (by kernel_rfl)) rfl ?_
 exact ⟨_, by rfl, by exact Kd.R_nil _ _ _ _ _, by repeat (with_reducible first | exact HB.out | refine below_set ?_ GEz0.out)⟩


def impl_copyImage.f (a0_0 : Int) (a0_1 : Int) (a0_2 : Int) (l0_3 : List Int) : Option (Int × Int × Int × List Int) := (some (([] : List Int) : List Int)).bind fun y134003 => (if y134003.length + l0_3.length < 17592186044416 then (some (a0_0, a0_1, a0_2, (y134003 ++ l0_3))) else (none))
set_option maxHeartbeats 8000000 in
set_option maxRecDepth 100000 in
theorem impl_copyImage.calls (a0_0 : Int) (a0_1 : Int) (a0_2 : Int) (A0_3 : Option Addr) (c0_3 : Nat) (l0_3 : List Int) (r1 : Int) (r2 : Int) (r3 : Int) (r4 : List Int) (w : World) (hr0_3 : Kd.C (Kd.int .i64) w A0_3 l0_3.length l0_3) (hc0_3 : l0_3.length ≤ c0_3) (h : impl_copyImage.f a0_0 a0_1 a0_2 l0_3 = some (r1, r2, r3, r4)) :
  Calls Try.prog 133 #[.agg #[.int .i64 a0_0, .int .i64 a0_1, .int .i64 a0_2, .slice A0_3 l0_3.length c0_3]] w fun e w' => ∃ v3_ : Value, e = .returned (.agg #[.int .i64 r1, .int .i64 r2, .int .i64 r3, v3_]) ∧ Kd.R (Kd.int .i64) 3 w' w.heap.size (fun _ => True) v3_ r4 ∧ Below w.heap.size w w' := by
 have hu27 := Try.underlying27
 have HR0_3 := mk hr0_3
 have HC0_3 := mk hc0_3
 clear hr0_3 hc0_3
 have HB := mk (Below.refl w.heap.size w)
 have H : ((some (([] : List Int) : List Int)).bind fun y134003 => (if y134003.length + l0_3.length < 17592186044416 then (some (a0_0, a0_1, a0_2, (y134003 ++ l0_3))) else (none))) = some (r1, r2, r3, r4) := h
 clear h
 obtain ⟨y134003, hy134003⟩ : ∃ y_ : List Int, y_ = (([] : List Int)) := ⟨_, rfl⟩
 replace H : (if y134003.length + l0_3.length < 17592186044416 then (some (a0_0, a0_1, a0_2, (y134003 ++ l0_3))) else (none)) = some (r1, r2, r3, r4) := by first | (rw [hy134003]; with_reducible exact H) | (have H2_ := (Option.bind_some _ _).symm.trans H; rw [hy134003]; with_reducible exact H2_) | (have H2_ := (Option.bind_some _ _).symm.trans H; with_reducible exact H2_) | with_reducible exact H | (rw [hy134003]; exact H) | exact H
 have Ny134003 := mk hy134003
 clear hy134003
 by_cases c2 : y134003.length + l0_3.length < 17592186044416
 ·rw [if_pos c2] at H
  have LMc2 := mk c2
  clear c2
  obtain ⟨y134006, hy134006⟩ : ∃ y_ : List Int, y_ = (y134003 ++ l0_3) := ⟨_, rfl⟩
  replace H : (some (a0_0, a0_1, a0_2, y134006)) = some (r1, r2, r3, r4) := by first | (rw [hy134006]; with_reducible exact H) | (have H2_ := (Option.bind_some _ _).symm.trans H; rw [hy134006]; with_reducible exact H2_) | (have H2_ := (Option.bind_some _ _).symm.trans H; with_reducible exact H2_) | with_reducible exact H | (rw [hy134006]; exact H) | exact H
  have Ny134006 := mk hy134006
  clear hy134006
  simp only [Option.some.injEq, Prod.mk.injEq] at H
  obtain ⟨rfl, rfl, rfl, rfl⟩ := H
  go_enter Try.func133, Try.ntmps133
  go_wp2_with (first | ((with_reducible refine gate_dst (N := 1) rfl ?_); refine box_event ?hg (N := 1) ?hd (cs := #[.int .i64 a0_0, .int .i64 a0_1, .int .i64 a0_2, .slice A0_3 l0_3.length c0_3]) (t := 27) ?hr ?_; (case hd => rfl); (case hg => rfl); (case hr => first | (go_simp; done) | (go_simp; rfl)); intro gb134001 hg w3 hbox hb; have n0_ := mk (below_step (by repeat (first | (with_reducible first | exact HB.out | apply below_alloc | apply pw_below_drewN | apply below_drew1) | exact HB.out)) hb); have n1_ := mk (hbox); have n2_ := mk ((by rw [hg]; exact (below_size (by repeat (first | (with_reducible first | exact HB.out | apply below_alloc | apply pw_below_drewN | apply below_drew1) | exact HB.out))) : w.heap.size ≤ gb134001)); have n3_ := mk ((by rw [hg]; exact (below_size (by repeat (first | (with_reducible first | exact HB.out | apply below_alloc | apply pw_below_drewN | apply below_drew1) | exact HB.out))) : w.heap.size ≤ gb134001)); clear HB; have HB := n0_; have BK134001 := n1_; have GW134001 := n2_; have GE134001 := n3_; clear n0_ n1_ n2_ n3_; clear hb hbox hg) | ((with_reducible refine gate_dst (N := 2) rfl ?_); refine box_event ?hg (N := 2) ?hd (cs := #[.int .i64 0, .int .i64 0, .int .i64 0, .slice none 0 0]) (t := 27) ?hr ?_; (case hd => rfl); (case hg => rfl); (case hr => first | (go_simp; done) | (go_simp; rfl)); intro gb134002 hg w4 hbox hb; have n0_ := mk (blk_below (g := gb134001) (o := .cells #[.int .i64 a0_0, .int .i64 a0_1, .int .i64 a0_2, .slice A0_3 l0_3.length c0_3] 27 (0, 0)) (by (with_reducible repeat (first | refine blk_drewN ?_ _ | refine blk_drew ?_ | refine blk_alloc ?_ _)); exact BK134001.out) hb); have n1_ := mk (below_step (by repeat (first | (with_reducible first | exact HB.out | apply below_alloc | apply pw_below_drewN | apply below_drew1 | refine below_set ?_ GE134001.out) | exact HB.out)) hb); have n2_ := mk (hbox); have n3_ := mk ((by rw [hg]; exact (below_size (by repeat (first | (with_reducible first | exact HB.out | apply below_alloc | apply pw_below_drewN | apply below_drew1 | refine below_set ?_ GE134001.out) | exact HB.out))) : w.heap.size ≤ gb134002)); have n4_ := mk ((by rw [hg]; exact (below_size (by repeat (first | (with_reducible first | exact HB.out | apply below_alloc | apply pw_below_drewN | apply below_drew1 | refine below_set ?_ GE134001.out) | exact HB.out))) : w.heap.size ≤ gb134002)); have n5_ := mk ((by rw [hg]; exact Nat.ne_of_lt (blk_lt (g := gb134001) (o := .cells #[.int .i64 a0_0, .int .i64 a0_1, .int .i64 a0_2, .slice A0_3 l0_3.length c0_3] 27 (0, 0)) (by (with_reducible repeat (first | refine blk_drewN ?_ _ | refine blk_drew ?_ | refine blk_alloc ?_ _)); exact BK134001.out)) : gb134001 ≠ gb134002)); have n6_ := mk ((by rw [hg]; exact Nat.ne_of_gt (blk_lt (g := gb134001) (o := .cells #[.int .i64 a0_0, .int .i64 a0_1, .int .i64 a0_2, .slice A0_3 l0_3.length c0_3] 27 (0, 0)) (by (with_reducible repeat (first | refine blk_drewN ?_ _ | refine blk_drew ?_ | refine blk_alloc ?_ _)); exact BK134001.out)) : gb134002 ≠ gb134001)); clear BK134001; clear HB; have BK134001 := n0_; have HB := n1_; have BK134002 := n2_; have GW134002 := n3_; have GE134002 := n4_; have NB134001_134002 := n5_; have NB134002_134001 := n6_; clear n0_ n1_ n2_ n3_ n4_ n5_ n6_; clear hb hbox hg) | ((with_reducible refine gate_dst (N := 3) rfl ?_); refine Kd.R_lit (Kd.int .i64) _ 3 ?hg (N := 3) ?hd (xs := ([] : List Int)) (inner := []) (ok := fun _ => True) (okp := fun _ => True) ?hr ?hp (fun _ hk => hk) trivial (Below.refl _ _) (Nat.le_refl _) (by simp) ?_; (case hd => rfl); (case hg => rfl); (case hr => first | (go_simp; done) | (go_simp; rfl)); (case hp => exact (Reps.none _ _)); intro v134004 w5 ho6 hb hg_ hnew_; clear hg_ hnew_; (first | rw [← Ny134003.out] at ho6 | (simp only [Int.reduceToNat] at ho6; rw [← Ny134003.out] at ho6)); have n0_ := mk (Kd.R_lower ho6 (below_size (by repeat (first | (with_reducible first | exact HB.out | apply below_alloc | apply pw_below_drewN | apply below_drew1 | refine below_set ?_ GE134001.out | refine below_set ?_ GE134002.out) | exact HB.out)))); have n1_ := mk (blk_below (g := gb134001) (o := .cells #[.int .i64 a0_0, .int .i64 a0_1, .int .i64 a0_2, .slice A0_3 l0_3.length c0_3] 27 (0, 0)) (by (with_reducible repeat (first | refine blk_drewN ?_ _ | refine blk_drew ?_ | refine blk_alloc ?_ _)); exact BK134001.out) hb); have n2_ := mk (blk_below (g := gb134002) (o := .cells #[.int .i64 0, .int .i64 0, .int .i64 0, .slice none 0 0] 27 (0, 0)) (by (with_reducible repeat (first | refine blk_drewN ?_ _ | refine blk_drew ?_ | refine blk_alloc ?_ _)); exact BK134002.out) hb); have n3_ := mk (below_step (by repeat (first | (with_reducible first | exact HB.out | apply below_alloc | apply pw_below_drewN | apply below_drew1 | refine below_set ?_ GE134001.out | refine below_set ?_ GE134002.out) | exact HB.out)) hb); clear BK134001; clear BK134002; clear HB; have HO134005 := n0_; have BK134001 := n1_; have BK134002 := n2_; have HB := n3_; clear n0_ n1_ n2_ n3_; clear hb ho6; have hnb7 := NB134001_134002.out; have hnc7 := NB134002_134001.out; have hcz8_0 : w5.cell? ⟨gb134001, 0, none⟩ = some (.int .i64 a0_0) := (blk_cell BK134001.out 0).trans rfl; have hcz8_1 : w5.cell? ⟨gb134001, 1, none⟩ = some (.int .i64 a0_1) := (blk_cell BK134001.out 1).trans rfl; have hcz8_2 : w5.cell? ⟨gb134001, 2, none⟩ = some (.int .i64 a0_2) := (blk_cell BK134001.out 2).trans rfl; have hcz8_3 : w5.cell? ⟨gb134001, 3, none⟩ = some (.slice A0_3 l0_3.length c0_3) := (blk_cell BK134001.out 3).trans rfl; have hfz8_0 := blk_frozen BK134001.out 0; have hfz8_1 := blk_frozen BK134001.out 1; have hfz8_2 := blk_frozen BK134001.out 2; have hfz8_3 := blk_frozen BK134001.out 3) | ((with_reducible refine gate_builtin (b := .append) (xs := #[.tmp 3, .tmp 5]) rfl ?_); at_builtin; refine Kd.R_append_rows (Kd.int .i64) (w0 := w) w.heap.size rfl (.tmp 3) (.tmp 5) 22 3 (.int .i64 0) 8 rfl Try.underlying22 info3 rfl (by decide) (by omega) v134004 y134003 l0_3 _ _ _ (fun _ => True) (fun _ => False) rfl rfl ?aO ?aR (fun _ _ h => h) (fun _ h => h.elim) ?aF ?aB ?aS ?aL ?_; (case aR => repeat (first | exact (Kd.C_below HR0_3.out HB.out) | (with_reducible refine Kd.C_alloc ?_ _) | (with_reducible refine Kd.C_drewN ?_ _) | (with_reducible refine Kd.C_drew ?_))); (case aB => exact (by repeat (first | (with_reducible first | exact HB.out | apply below_alloc | apply pw_below_drewN | apply below_drew1 | refine below_set ?_ GE134001.out | refine below_set ?_ GE134002.out) | exact HB.out))); (case aF => exact (fun _ _ => trivial)); (case aO => exact (by (with_reducible repeat (first | apply Kd.R_alloc | apply Kd.R_drewN | apply Kd.R_drew)); exact HO134005.out)); (case aS => exact (below_size (by repeat (first | (with_reducible first | exact HB.out | apply below_alloc | apply pw_below_drewN | apply below_drew1 | refine below_set ?_ GE134001.out | refine below_set ?_ GE134002.out) | exact HB.out)))); (case aL => have := LMc2.out; omega); intro v134007 w9 ho hb hg hat; rw [← Ny134006.out] at ho; have n0_ := mk (blk_grown (g := gb134001) (o := .cells #[.int .i64 a0_0, .int .i64 a0_1, .int .i64 a0_2, .slice A0_3 l0_3.length c0_3] 27 (0, 0)) (by (with_reducible repeat (first | refine blk_drewN ?_ _ | refine blk_drew ?_ | refine blk_alloc ?_ _)); exact BK134001.out) hg (Kd.R_ne HO134005.out BK134001.out (by decide))); have n1_ := mk (blk_grown (g := gb134002) (o := .cells #[.int .i64 0, .int .i64 0, .int .i64 0, .slice none 0 0] 27 (0, 0)) (by (with_reducible repeat (first | refine blk_drewN ?_ _ | refine blk_drew ?_ | refine blk_alloc ?_ _)); exact BK134002.out) hg (Kd.R_ne HO134005.out BK134002.out (by decide))); have n2_ := mk (hb); have n3_ := mk (ho); clear BK134001; clear BK134002; clear HB; clear HO134005; have BK134001 := n0_; have BK134002 := n1_; have HB := n2_; have HO134008 := n3_; clear n0_ n1_ n2_ n3_; clear ho hb hg hat; obtain ⟨Ao10, co10, eo10⟩ := Kd.R_slice HO134008.out; subst eo10; have hcz11_0 : w9.cell? ⟨gb134001, 0, none⟩ = some (.int .i64 a0_0) := (blk_cell BK134001.out 0).trans rfl; have hcz11_1 : w9.cell? ⟨gb134001, 1, none⟩ = some (.int .i64 a0_1) := (blk_cell BK134001.out 1).trans rfl; have hcz11_2 : w9.cell? ⟨gb134001, 2, none⟩ = some (.int .i64 a0_2) := (blk_cell BK134001.out 2).trans rfl; have hcz11_3 : w9.cell? ⟨gb134001, 3, none⟩ = some (.slice A0_3 l0_3.length c0_3) := (blk_cell BK134001.out 3).trans rfl; have hfz11_0 := blk_frozen BK134001.out 0; have hfz11_1 := blk_frozen BK134001.out 1; have hfz11_2 := blk_frozen BK134001.out 2; have hfz11_3 := blk_frozen BK134001.out 3; have hcz12_0 : w9.cell? ⟨gb134002, 0, none⟩ = some (.int .i64 0) := (blk_cell BK134002.out 0).trans rfl; have hcz12_1 : w9.cell? ⟨gb134002, 1, none⟩ = some (.int .i64 0) := (blk_cell BK134002.out 1).trans rfl; have hcz12_2 : w9.cell? ⟨gb134002, 2, none⟩ = some (.int .i64 0) := (blk_cell BK134002.out 2).trans rfl; have hcz12_3 : w9.cell? ⟨gb134002, 3, none⟩ = some (.slice none 0 0) := (blk_cell BK134002.out 3).trans rfl; have hfz12_0 := blk_frozen BK134002.out 0; have hfz12_1 := blk_frozen BK134002.out 1; have hfz12_2 := blk_frozen BK134002.out 2; have hfz12_3 := blk_frozen BK134002.out 3))
  refine bodyPost_ret (results_cell_row rfl _ _ gb134002 27 #[.int .i64 a0_0, .int .i64 a0_1, .int .i64 a0_2, .slice Ao10 y134006.length co10] (0, 0) _ rfl (by (with_reducible repeat (first | refine blk_drewN ?_ _ | refine blk_drew ?_ | refine blk_alloc ?_ _)); refine blk_put (cs := #[.int .i64 a0_0, .int .i64 a0_1, .int .i64 a0_2, .slice none 0 0]) ?_ 3 _ rfl; (with_reducible repeat (first | refine blk_drewN ?_ _ | refine blk_drew ?_ | refine blk_alloc ?_ _)); refine blk_put (cs := #[.int .i64 a0_0, .int .i64 a0_1, .int .i64 0, .slice none 0 0]) ?_ 2 _ rfl; (with_reducible repeat (first | refine blk_drewN ?_ _ | refine blk_drew ?_ | refine blk_alloc ?_ _)); refine blk_put (cs := #[.int .i64 a0_0, .int .i64 0, .int .i64 0, .slice none 0 0]) ?_ 1 _ rfl; (with_reducible repeat (first | refine blk_drewN ?_ _ | refine blk_drew ?_ | refine blk_alloc ?_ _)); refine blk_put (cs := #[.int .i64 0, .int .i64 0, .int .i64 0, .slice none 0 0]) ?_ 0 _ rfl; (with_reducible repeat (first | refine blk_drewN ?_ _ | refine blk_drew ?_ | refine blk_alloc ?_ _)); refine blk_far ?_ NB134002_134001.out _; (with_reducible repeat (first | refine blk_drewN ?_ _ | refine blk_drew ?_ | refine blk_alloc ?_ _)); exact BK134002.out) Try.underlying27 rfl (by kernel_rfl)) rfl ?_
  exact ⟨_, by first | rfl | (simp [errW_none, errW_some] <;> rfl) | (simp [*, errW_none, errW_some] <;> rfl), by (with_reducible repeat (first | apply Kd.R_alloc | apply Kd.R_drewN | apply Kd.R_drew)); exact Kd.R_mono (Kd.R_far (p := ⟨gb134002, 3, none⟩) (Kd.R_far (p := ⟨gb134002, 2, none⟩) (Kd.R_far (p := ⟨gb134002, 1, none⟩) (Kd.R_far (p := ⟨gb134002, 0, none⟩) (Kd.R_far (p := ⟨gb134001, 3, none⟩) (Kd.R_types (Kd.R_types HO134008.out BK134001.out (by decide)) BK134002.out (by decide)) (fun _ hk => hk.1.2) (.slice Ao10 y134006.length co10)) (fun _ hk => hk.2) (.int .i64 a0_0)) (fun _ hk => hk.2) (.int .i64 a0_1)) (fun _ hk => hk.2) (.int .i64 a0_2)) (fun _ hk => hk.2) (.slice Ao10 y134006.length co10)) (fun _ hk => trivial), by repeat (first | (with_reducible first | exact HB.out | apply below_alloc | apply pw_below_drewN | apply below_drew1 | refine below_set ?_ GE134001.out | refine below_set ?_ GE134002.out) | exact HB.out)⟩
 ·rw [if_neg c2] at H
  exact absurd H (by simp)


mutual
def impl_flatten.j0 : Nat → List S55 → Bool → Int → Int → Int → List Int → Option (Int × Int × Int × List Int × Bool)
 | 0, _, _, _, _, _, _ => none
 | k + 1, x1, x16, xz8, xz9, xz7, xz10 => if x16 = true then (some (0, 0, 0, ([] : List Int), false)) else ((impl_copyImage.f xz8 xz9 xz7 xz10).bind fun btz1 => (impl_flatten.l0 k x1 (x1.length : Int) 0 xz8 xz9 xz7 xz10 btz1.1 btz1.2.1 btz1.2.2.1 btz1.2.2.2))
def impl_flatten.l0 : Nat → List S55 → Int → Int → Int → Int → Int → List Int → Int → Int → Int → List Int → Option (Int × Int × Int × List Int × Bool)
 | 0, _, _, _, _, _, _, _, _, _, _, _ => none
 | k + 1, x20, x21, x22, xz8, xz9, xz7, xz10, xz11, xz12, xz13, xz14 => if x22 < x21 then (if 0 ≤ x22 then (if x22 < (x20.length : Int) then ((impl_isLayer.f ((rd_T55 x20 x22).f0.f0) ((rd_T55 x20 x22).f0.f1) ((rd_T55 x20 x22).f0.f2) ((rd_T55 x20 x22).f0.f3) ((rd_T55 x20 x22).f1) ((rd_T55 x20 x22).f2) ((rd_T55 x20 x22).f3) ((rd_T55 x20 x22).f4) ((rd_T55 x20 x22).f5) xz7).bind fun tz9 => (if tz9 = true then (if ((rd_T55 x20 x22).f5 = true) then (impl_flatten.l0 k x20 x21 (wrap64 (x22 + 1)) xz8 xz9 xz7 xz10 xz11 xz12 xz13 xz14) else ((impl_coverImage.f xz11 xz12 xz13 xz14 ((rd_T55 x20 x22).f0.f0) ((rd_T55 x20 x22).f0.f1) ((rd_T55 x20 x22).f0.f2) ((rd_T55 x20 x22).f0.f3) ((rd_T55 x20 x22).f1) ((rd_T55 x20 x22).f2) ((rd_T55 x20 x22).f3) ((rd_T55 x20 x22).f4) ((rd_T55 x20 x22).f5)).bind fun btz0 => (impl_flatten.l0 k x20 x21 (wrap64 (x22 + 1)) xz8 xz9 xz7 xz10 btz0.1 btz0.2.1 btz0.2.2.1 btz0.2.2.2))) else (some (0, 0, 0, ([] : List Int), false)))) else none) else none) else (some (xz11, xz12, xz13, xz14, true))
end
def impl_flatten.f (k : Nat) (a0_0 : Int) (a0_1 : Int) (a0_2 : Int) (l0_3 : List Int) (l1 : List S55) : Option (Int × Int × Int × List Int × Bool) := (impl_isImage.f a0_0 a0_1 a0_2 l0_3).bind fun tz2 => (if tz2 = true then (impl_flatten.j0 k l1 (decide ((l1.length : Int) > 6)) a0_0 a0_1 a0_2 l0_3) else (impl_flatten.j0 k l1 true a0_0 a0_1 a0_2 l0_3))
theorem impl_flatten.mono_l : ∀ k, (∀ y0 y1 y2 y3 y4 y5, LeO (impl_flatten.j0 k y0 y1 y2 y3 y4 y5) (impl_flatten.j0 (k + 1) y0 y1 y2 y3 y4 y5)) ∧ (∀ y0 y1 y2 y3 y4 y5 y6 y7 y8 y9 y10, LeO (impl_flatten.l0 k y0 y1 y2 y3 y4 y5 y6 y7 y8 y9 y10) (impl_flatten.l0 (k + 1) y0 y1 y2 y3 y4 y5 y6 y7 y8 y9 y10))
 | 0 => ⟨fun _ _ _ _ _ _ r h => by simp [impl_flatten.j0] at h, fun _ _ _ _ _ _ _ _ _ _ _ r h => by simp [impl_flatten.l0] at h⟩
 | k + 1 => by
  obtain ⟨ih0, ih1⟩ := impl_flatten.mono_l k
  refine ⟨?_, ?_⟩
  ·intro y0 y1 y2 y3 y4 y5
   unfold impl_flatten.j0
   repeat' first | (with_reducible exact ih1 _ _ _ _ _ _ _ _ _ _ _) | (with_reducible exact LeO.refl _) | (with_reducible refine LeO.ite ?_ ?_) | (with_reducible refine LeO.bind ?_ (fun _ => ?_))
  intro y0 y1 y2 y3 y4 y5 y6 y7 y8 y9 y10
  unfold impl_flatten.l0
  repeat' first | (with_reducible exact ih1 _ _ _ _ _ _ _ _ _ _ _) | (with_reducible exact LeO.refl _) | (with_reducible refine LeO.ite ?_ ?_) | (with_reducible refine LeO.bind ?_ (fun _ => ?_))
theorem impl_flatten.mono : ∀ a0 a1 a2 a3 a4 k, LeO (impl_flatten.f k a0 a1 a2 a3 a4) (impl_flatten.f (k + 1) a0 a1 a2 a3 a4) := by
 intro a0 a1 a2 a3 a4 k
 obtain ⟨ih0, ih1⟩ := impl_flatten.mono_l k
 unfold impl_flatten.f
 repeat' first | (with_reducible exact ih0 _ _ _ _ _ _) | (with_reducible exact LeO.refl _) | (with_reducible refine LeO.ite ?_ ?_) | (with_reducible refine LeO.bind ?_ (fun _ => ?_))
set_option maxHeartbeats 8000000 in
set_option maxRecDepth 100000 in
theorem impl_flatten.calls (k : Nat) (a0_0 : Int) (a0_1 : Int) (a0_2 : Int) (A0_3 : Option Addr) (c0_3 : Nat) (l0_3 : List Int) (A1 : Option Addr) (c1 : Nat) (l1 : List S55) (r1 : Int) (r2 : Int) (r3 : Int) (r4 : List Int) (r5 : Bool) (w : World) (hr0_3 : Kd.C (Kd.int .i64) w A0_3 l0_3.length l0_3) (hc0_3 : l0_3.length ≤ c0_3) (hr1 : Kd.C k55 w A1 l1.length l1) (hc1 : l1.length ≤ c1) (h : impl_flatten.f k a0_0 a0_1 a0_2 l0_3 l1 = some (r1, r2, r3, r4, r5)) :
  Calls Try.prog 119 #[.agg #[.int .i64 a0_0, .int .i64 a0_1, .int .i64 a0_2, .slice A0_3 l0_3.length c0_3], .slice A1 l1.length c1] w fun e w' => ∃ v3_ : Value, e = .returned (.tuple #[.agg #[.int .i64 r1, .int .i64 r2, .int .i64 r3, v3_], .bool r5]) ∧ Kd.R (Kd.int .i64) 3 w' w.heap.size (fun _ => True) v3_ r4 ∧ Below w.heap.size w w' := by
 have hu27 := Try.underlying27
 have hu55 := Try.underlying55
 have HR0_3 := mk hr0_3
 have HC0_3 := mk hc0_3
 clear hr0_3 hc0_3
 have HR1 := mk hr1
 have HC1 := mk hc1
 clear hr1 hc1
 have HB := mk (Below.refl w.heap.size w)
 have H : ((impl_isImage.f a0_0 a0_1 a0_2 l0_3).bind fun tz2 => (if tz2 = true then (impl_flatten.j0 k l1 (decide ((l1.length : Int) > 6)) a0_0 a0_1 a0_2 l0_3) else (impl_flatten.j0 k l1 true a0_0 a0_1 a0_2 l0_3))) = some (r1, r2, r3, r4, r5) := h
 clear h
 have HC3 := mk H
 clear H
 go_enter Try.func119, Try.ntmps119
 go_upto_region 1 with (first | ((with_reducible refine gate_dst (N := 2) rfl ?_); (try (refine gate_guard (by rfl) ?_; dsimp only)); refine box_event (by rfl) (N := 2) (by rfl) (cs := #[.int .i64 a0_0, .int .i64 a0_1, .int .i64 a0_2, .slice A0_3 l0_3.length c0_3]) (t := 27) (by go_simp; done) ?_; intro gbz3 hg w4 hbox hb; replace HB := mk (below_step HB.out hb); have BKz2 := mk (hbox); clear hb hbox hg) | ((with_reducible refine gate_dst (N := 4) rfl ?_); (try (refine gate_guard (by rfl) ?_; dsimp only)); refine box_event (by rfl) (N := 4) (by rfl) (cs := #[.int .i64 0, .int .i64 0, .int .i64 0, .slice none 0 0]) (t := 27) (by go_simp; done) ?_; intro gbz2 hg w5 hbox hb; have BKz1 := mk (hbox); have GEz1 := mk ((by rw [hg]; exact (below_size HB.out) : w.heap.size ≤ gbz2)); replace HB := mk (below_step HB.out hb); have NBz7 := mk ((by rw [hg]; exact Nat.ne_of_lt (blk_lt BKz2.out) : gbz3 ≠ gbz2)); have NBz8 := mk ((by rw [hg]; exact Nat.ne_of_gt (blk_lt BKz2.out) : gbz2 ≠ gbz3)); replace BKz2 := mk (blk_below BKz2.out hb); clear hb hbox hg))
 go_cut [16] (fun v16 wc => ∃ (kq : Nat) (x16_2 : Bool), v16 = .bool x16_2 ∧ Aside0 (impl_flatten.j0 kq l1 x16_2 a0_0 a0_1 a0_2 l0_3 = some (r1, r2, r3, r4, r5)) ∧ Aside0 (kq ≤ k) ∧ Aside0 (wc.heap[gbz3]? = some (.cells #[.int .i64 a0_0, .int .i64 a0_1, .int .i64 a0_2, (.slice A0_3 l0_3.length c0_3)] 27 (0, 0))) ∧ Aside0 (wc.heap[gbz2]? = some (.cells #[.int .i64 0, .int .i64 0, .int .i64 0, (.slice none 0 0)] 27 (0, 0))) ∧ Aside0 (Below w.heap.size w wc))
 case first =>
  have H := HC3.out
  clear HC3
  replace H := Option.bind_eq_some_iff.mp H
  obtain ⟨tz2, A60, H⟩ := H
  replace H : (if tz2 = true then (impl_flatten.j0 k l1 (decide ((l1.length : Int) > 6)) a0_0 a0_1 a0_2 l0_3) else (impl_flatten.j0 k l1 true a0_0 a0_1 a0_2 l0_3)) = some (r1, r2, r3, r4, r5) := H
  have A6 := mk A60
  clear A60
  by_cases c7 : tz2 = true
  ·subst c7
   have H1 : (impl_flatten.j0 k l1 (decide ((l1.length : Int) > 6)) a0_0 a0_1 a0_2 l0_3) = some (r1, r2, r3, r4, r5) := by rw [if_pos rfl] at H; exact H
   clear H
   have H := H1
   clear H1
   have H' := mk H
   clear H
   obtain ⟨hcz9_0, hcz9_1, hcz9_2, hcz9_3, -⟩ := c4 BKz2.out
   go_wp2_with (first | ((with_reducible refine gate_callee (f := 83) rfl ?_); refine goesL_ (some 10) rfl rfl Try.func83 (by kernel_rfl) rfl #[.agg #[.int .i64 a0_0, .int .i64 a0_1, .int .i64 a0_2, .slice A0_3 l0_3.length c0_3]] rfl (by (try simp only [List.map_toArray, List.map_cons, List.map_nil]); rfl) ?_; (with_reducible refine (impl_isImage.calls a0_0 a0_1 a0_2 _ _ l0_3 true _ ?side1 ?side2 A6.out).mono ?_); (case side1 => repeat (exact (Kd.C_below HR0_3.out HB.out))); (case side2 => exact HC0_3.out); rintro e w10 ⟨rfl, hb⟩; refine ⟨_, rfl, ?_⟩; replace BKz2 := mk (blk_below BKz2.out hb); replace BKz1 := mk (blk_below BKz1.out hb); replace HB := mk (below_step HB.out hb); (try clear hb)))
   go_meet
   case rel => exact ⟨_, (decide ((l1.length : Int) > 6)), (by rfl), H', ⟨by omega⟩, BKz2, BKz1, HB⟩
  replace c7 := Bool.eq_false_iff.mpr c7
  subst c7
  have H1 : (impl_flatten.j0 k l1 true a0_0 a0_1 a0_2 l0_3) = some (r1, r2, r3, r4, r5) := by rw [if_neg (show ¬ (false = true) by decide)] at H; exact H
  clear H
  have H := H1
  clear H1
  have H' := mk H
  clear H
  obtain ⟨hcz12_0, hcz12_1, hcz12_2, hcz12_3, -⟩ := c4 BKz2.out
  go_wp2_with (first | ((with_reducible refine gate_callee (f := 83) rfl ?_); refine goesL_ (some 10) rfl rfl Try.func83 (by kernel_rfl) rfl #[.agg #[.int .i64 a0_0, .int .i64 a0_1, .int .i64 a0_2, .slice A0_3 l0_3.length c0_3]] rfl (by (try simp only [List.map_toArray, List.map_cons, List.map_nil]); rfl) ?_; (with_reducible refine (impl_isImage.calls a0_0 a0_1 a0_2 _ _ l0_3 false _ ?side1 ?side2 A6.out).mono ?_); (case side1 => repeat (exact (Kd.C_below HR0_3.out HB.out))); (case side2 => exact HC0_3.out); rintro e w13 ⟨rfl, hb⟩; refine ⟨_, rfl, ?_⟩; replace BKz2 := mk (blk_below BKz2.out hb); replace BKz1 := mk (blk_below BKz1.out hb); replace HB := mk (below_step HB.out hb); (try clear hb)))
  go_meet
  case rel => exact ⟨_, (true), (by rfl), H', ⟨by omega⟩, BKz2, BKz1, HB⟩
 case rest =>
  clear HC3
  obtain ⟨kq, x16_2, rfl, HA, HJ2, BKz2, BKz1, HB⟩ := hcut
  cases kq with
  | zero => exact absurd HA.out (by simp [impl_flatten.j0])
  | succ kj2 =>
   have H := HA.out
   clear HA
   simp only [impl_flatten.j0] at H
   by_cases c14 : x16_2 = true
   ·subst c14
    have H1 : (some (0, 0, 0, ([] : List Int), false)) = some (r1, r2, r3, r4, r5) := by rw [if_pos rfl] at H; exact H
    clear H
    have H := H1
    clear H1
    simp only [Option.some.injEq, Prod.mk.injEq] at H
    obtain ⟨rfl, rfl, rfl, rfl, rfl⟩ := H
    obtain ⟨hcz16_0, hcz16_1, hcz16_2, hcz16_3, hfz16_0, hfz16_1, hfz16_2, hfz16_3⟩ := c4 BKz1.out
    go_wp2
    refine bodyPost_ret (results_ct rfl _ _ gbz2 27 #[.int .i64 0, .int .i64 0, .int .i64 0, .slice none 0 0] (0, 0) _ rfl (by refine blk_put (cs := #[.int .i64 0, .int .i64 0, .int .i64 0, .slice none 0 0]) ?_ 3 _ rfl; refine blk_put (cs := #[.int .i64 0, .int .i64 0, .int .i64 0, .slice none 0 0]) ?_ 2 _ rfl; refine blk_put (cs := #[.int .i64 0, .int .i64 0, .int .i64 0, .slice none 0 0]) ?_ 1 _ rfl; refine blk_put (cs := #[.int .i64 0, .int .i64 0, .int .i64 0, .slice none 0 0]) ?_ 0 _ rfl; exact BKz1.out) Try.underlying27 rfl (by kernel_rfl)) rfl ?_
    exact ⟨_, by rfl, by exact Kd.R_nil _ _ _ _ _, by repeat (with_reducible first | exact HB.out | refine below_set ?_ GEz1.out)⟩
   replace c14 := Bool.eq_false_iff.mpr c14
   subst c14
   have H1 : ((impl_copyImage.f a0_0 a0_1 a0_2 l0_3).bind fun btz1 => (impl_flatten.l0 kj2 l1 (l1.length : Int) 0 a0_0 a0_1 a0_2 l0_3 btz1.1 btz1.2.1 btz1.2.2.1 btz1.2.2.2)) = some (r1, r2, r3, r4, r5) := by rw [if_neg (show ¬ (false = true) by decide)] at H; exact H
   clear H
   have H := H1
   clear H1
   replace H := Option.bind_eq_some_iff.mp H
   obtain ⟨⟨tz0, tz3, tz5, tz6⟩, A170, H⟩ := H
   replace H : (impl_flatten.l0 kj2 l1 (l1.length : Int) 0 a0_0 a0_1 a0_2 l0_3 tz0 tz3 tz5 tz6) = some (r1, r2, r3, r4, r5) := H
   have A17 := mk A170
   clear A170
   have H' := mk H
   clear H
   obtain ⟨hcz19_0, hcz19_1, hcz19_2, hcz19_3, hfz19_0, hfz19_1, hfz19_2, hfz19_3⟩ := c4 BKz2.out
   go_wp2_with (first | ((with_reducible refine gate_callee (f := 133) rfl ?_); refine goesL_ (some 19) rfl rfl Try.func133 (by kernel_rfl) rfl #[.agg #[.int .i64 a0_0, .int .i64 a0_1, .int .i64 a0_2, .slice A0_3 l0_3.length c0_3]] rfl (by (try simp only [List.map_toArray, List.map_cons, List.map_nil]); rfl) ?_; (with_reducible refine (impl_copyImage.calls a0_0 a0_1 a0_2 _ _ l0_3 tz0 tz3 tz5 tz6 _ ?side1 ?side2 A17.out).mono ?_); (case side1 => repeat (exact (Kd.C_below HR0_3.out HB.out))); (case side2 => exact HC0_3.out); rintro e w20 ⟨vz0, rfl, ho0, hb⟩; refine ⟨_, rfl, ?_⟩; have HOz1 := mk (Kd.R_lower ho0 (below_size HB.out)); replace BKz2 := mk (blk_below BKz2.out hb); replace BKz1 := mk (blk_below BKz1.out hb); replace HB := mk (below_step HB.out hb); (try clear hb); (try clear ho0)) | ((with_reducible refine gate_dst (N := 6) rfl ?_); (try (refine gate_guard (by rfl) ?_; dsimp only)); refine box_event (by rfl) (N := 6) (by rfl) (cs := #[.int .i64 0, .int .i64 0, .int .i64 0, .slice none 0 0]) (t := 27) (by go_simp; done) ?_; intro gbz1 hg w21 hbox hb; replace HOz1 := mk (Kd.R_below HOz1.out hb); have BKz3 := mk (hbox); have GEz2 := mk ((by rw [hg]; exact (below_size HB.out) : w.heap.size ≤ gbz1)); replace HB := mk (below_step HB.out hb); have NBz3 := mk ((by rw [hg]; exact Nat.ne_of_lt (blk_lt BKz2.out) : gbz3 ≠ gbz1)); have NBz9 := mk ((by rw [hg]; exact Nat.ne_of_gt (blk_lt BKz2.out) : gbz1 ≠ gbz3)); replace BKz2 := mk (blk_below BKz2.out hb); have NBz4 := mk ((by rw [hg]; exact Nat.ne_of_lt (blk_lt BKz1.out) : gbz2 ≠ gbz1)); replace BKz1 := mk (blk_below BKz1.out hb); clear hb hbox hg; obtain ⟨hcz24_0, hcz24_1, hcz24_2, hcz24_3, hfz24_0, hfz24_1, hfz24_2, hfz24_3⟩ := c4 BKz3.out; obtain ⟨Ao25, co25, eo25⟩ := Kd.R_slice HOz1.out; subst eo25))
   go_loopg [22] kj2 (fun kq v22 w' => ∃ (x22_2 : Int) (xz6 : Int) (xz5 : Int) (xz4 : Int) (xz0 : Int) (xz1 : Int) (xz2 : Int) (xz3 : List Int) (u120011003 : Value), v22 = .int .i64 x22_2 ∧ Aside0 (impl_flatten.l0 kq l1 (l1.length : Int) x22_2 a0_0 a0_1 a0_2 l0_3 xz0 xz1 xz2 xz3 = some (r1, r2, r3, r4, r5)) ∧ Aside0 (kq ≤ kj2) ∧ Aside0 (Kd.R (Kd.int .i64) 3 w' w.heap.size (fun _ => True) u120011003 xz3) ∧ Aside0 (w'.heap[gbz3]? = some (.cells #[.int .i64 a0_0, .int .i64 a0_1, .int .i64 a0_2, (.slice A0_3 l0_3.length c0_3)] 27 (0, 0))) ∧ Aside0 (w'.heap[gbz2]? = some (.cells #[.int .i64 xz6, .int .i64 xz5, .int .i64 xz4, (.slice none 0 0)] 27 (0, 0))) ∧ Aside0 (w'.heap[gbz1]? = some (.cells #[.int .i64 xz0, .int .i64 xz1, .int .i64 xz2, u120011003] 27 (0, 0))) ∧ Aside0 (Below w.heap.size w w'))
   case atStart => exact ⟨(0), (0), (0), (0), (tz0), (tz3), (tz5), (tz6), (.slice Ao25 tz6.length co25), (by rfl), H', ⟨Nat.le_refl _⟩, ⟨by exact Kd.R_mono (Kd.R_far (p := ⟨gbz1, 3, none⟩) (Kd.R_far (p := ⟨gbz1, 2, none⟩) (Kd.R_far (p := ⟨gbz1, 1, none⟩) (Kd.R_far (p := ⟨gbz1, 0, none⟩) (Kd.R_types HOz1.out BKz3.out (by decide)) (fun _ hk => hk.2) (.int .i64 tz0)) (fun _ hk => hk.2) (.int .i64 tz3)) (fun _ hk => hk.2) (.int .i64 tz5)) (fun _ hk => hk.2) (.slice Ao25 tz6.length co25)) (fun _ hk => trivial)⟩, ⟨by refine blk_far ?_ NBz3.out _; refine blk_far ?_ NBz3.out _; refine blk_far ?_ NBz3.out _; refine blk_far ?_ NBz3.out _; exact BKz2.out⟩, ⟨by refine blk_far ?_ NBz4.out _; refine blk_far ?_ NBz4.out _; refine blk_far ?_ NBz4.out _; refine blk_far ?_ NBz4.out _; exact BKz1.out⟩, ⟨by refine blk_put (cs := #[.int .i64 tz0, .int .i64 tz3, .int .i64 tz5, .slice none 0 0]) ?_ 3 _ rfl; refine blk_put (cs := #[.int .i64 tz0, .int .i64 tz3, .int .i64 0, .slice none 0 0]) ?_ 2 _ rfl; refine blk_put (cs := #[.int .i64 tz0, .int .i64 0, .int .i64 0, .slice none 0 0]) ?_ 1 _ rfl; refine blk_put (cs := #[.int .i64 0, .int .i64 0, .int .i64 0, .slice none 0 0]) ?_ 0 _ rfl; exact BKz3.out⟩, ⟨by repeat (with_reducible first | exact HB.out | refine below_set ?_ GEz2.out)⟩⟩
   case round =>
    clear H'
    obtain ⟨x22_2, xz6, xz5, xz4, xz0, xz1, xz2, xz3, u120011003, rfl, HA, HK2, HOz0, BKz2, BKz1, BKz3, HB⟩ := hrel
    cases gk with
    | zero => exact absurd HA.out (by simp [impl_flatten.l0])
    | succ k2 =>
     have H := HA.out
     clear HA
     simp only [impl_flatten.l0] at H
     by_cases c26 : x22_2 < (l1.length : Int)
     ·rw [if_pos c26] at H
      have c26b0 : decide (x22_2 < (l1.length : Int)) = true := decide_eq_true c26
      clear c26
      by_cases c27 : 0 ≤ x22_2
      ·rw [if_pos c27] at H
       have c27b0 : decide (0 ≤ x22_2) = true := decide_eq_true c27
       clear c27
       by_cases c28 : x22_2 < (l1.length : Int)
       ·rw [if_pos c28] at H
        have c28b0 : decide (x22_2 < (l1.length : Int)) = true := decide_eq_true c28
        clear c28
        replace H := Option.bind_eq_some_iff.mp H
        obtain ⟨tz9, A290, H⟩ := H
        replace H : (if tz9 = true then (if ((rd_T55 l1 x22_2).f5 = true) then (impl_flatten.l0 k2 l1 (l1.length : Int) (wrap64 (x22_2 + 1)) a0_0 a0_1 a0_2 l0_3 xz0 xz1 xz2 xz3) else ((impl_coverImage.f xz0 xz1 xz2 xz3 ((rd_T55 l1 x22_2).f0.f0) ((rd_T55 l1 x22_2).f0.f1) ((rd_T55 l1 x22_2).f0.f2) ((rd_T55 l1 x22_2).f0.f3) ((rd_T55 l1 x22_2).f1) ((rd_T55 l1 x22_2).f2) ((rd_T55 l1 x22_2).f3) ((rd_T55 l1 x22_2).f4) ((rd_T55 l1 x22_2).f5)).bind fun btz0 => (impl_flatten.l0 k2 l1 (l1.length : Int) (wrap64 (x22_2 + 1)) a0_0 a0_1 a0_2 l0_3 btz0.1 btz0.2.1 btz0.2.2.1 btz0.2.2.2))) else (some (0, 0, 0, ([] : List Int), false))) = some (r1, r2, r3, r4, r5) := H
        have A29 := mk A290
        clear A290
        by_cases c30 : tz9 = true
        ·subst c30
         have H1 : (if ((rd_T55 l1 x22_2).f5 = true) then (impl_flatten.l0 k2 l1 (l1.length : Int) (wrap64 (x22_2 + 1)) a0_0 a0_1 a0_2 l0_3 xz0 xz1 xz2 xz3) else ((impl_coverImage.f xz0 xz1 xz2 xz3 ((rd_T55 l1 x22_2).f0.f0) ((rd_T55 l1 x22_2).f0.f1) ((rd_T55 l1 x22_2).f0.f2) ((rd_T55 l1 x22_2).f0.f3) ((rd_T55 l1 x22_2).f1) ((rd_T55 l1 x22_2).f2) ((rd_T55 l1 x22_2).f3) ((rd_T55 l1 x22_2).f4) ((rd_T55 l1 x22_2).f5)).bind fun btz0 => (impl_flatten.l0 k2 l1 (l1.length : Int) (wrap64 (x22_2 + 1)) a0_0 a0_1 a0_2 l0_3 btz0.1 btz0.2.1 btz0.2.2.1 btz0.2.2.2))) = some (r1, r2, r3, r4, r5) := by rw [if_pos rfl] at H; exact H
         clear H
         have H := H1
         clear H1
         obtain ⟨bq31, hbq31⟩ : ∃ b_ : Bool, b_ = ((rd_T55 l1 x22_2).f5) := ⟨_, rfl⟩
         replace H : (if (bq31 = true) then (impl_flatten.l0 k2 l1 (l1.length : Int) (wrap64 (x22_2 + 1)) a0_0 a0_1 a0_2 l0_3 xz0 xz1 xz2 xz3) else ((impl_coverImage.f xz0 xz1 xz2 xz3 ((rd_T55 l1 x22_2).f0.f0) ((rd_T55 l1 x22_2).f0.f1) ((rd_T55 l1 x22_2).f0.f2) ((rd_T55 l1 x22_2).f0.f3) ((rd_T55 l1 x22_2).f1) ((rd_T55 l1 x22_2).f2) ((rd_T55 l1 x22_2).f3) ((rd_T55 l1 x22_2).f4) bq31).bind fun btz0 => (impl_flatten.l0 k2 l1 (l1.length : Int) (wrap64 (x22_2 + 1)) a0_0 a0_1 a0_2 l0_3 btz0.1 btz0.2.1 btz0.2.2.1 btz0.2.2.2))) = some (r1, r2, r3, r4, r5) := by rw [← hbq31] at H; exact H
         have Nbq31 := mk hbq31
         clear hbq31
         by_cases c32 : (bq31 = true)
         ·subst c32
          have H1 : (impl_flatten.l0 k2 l1 (l1.length : Int) (wrap64 (x22_2 + 1)) a0_0 a0_1 a0_2 l0_3 xz0 xz1 xz2 xz3) = some (r1, r2, r3, r4, r5) := by rw [if_pos rfl] at H; exact H
          clear H
          have H := H1
          clear H1
          have H' := mk H
          clear H
          have p120011 : 0 ≤ (x22_2 : Int) := of_decide_eq_true (by (with_reducible assumption))
          have q120011 : x22_2 < (l1.length : Int) := of_decide_eq_true (by (with_reducible assumption))
          obtain ⟨ad120011, Az0, cz0, e120011, hx120011_0, hx120011_1, hx120011_2, hx120011_3, hx120011_4, hx120011_5, hx120011_6, hx120011_7, hx120011_8, hl120011_3, hi120011_3⟩ := at_T55 HR1.out x22_2 p120011 q120011
          (try rw [← Nbq31.out] at hx120011_8); (try rw [← Nbq31.out] at A29)
          cases e120011
          replace hx120011_0 := bc HB.out hx120011_0
          replace hx120011_1 := bc HB.out hx120011_1
          replace hx120011_2 := bc HB.out hx120011_2
          replace hx120011_3 := bc HB.out hx120011_3
          replace hx120011_4 := bc HB.out hx120011_4
          replace hx120011_5 := bc HB.out hx120011_5
          replace hx120011_6 := bc HB.out hx120011_6
          replace hx120011_7 := bc HB.out hx120011_7
          replace hx120011_8 := bc HB.out hx120011_8
          have HR120011_3 := mk hi120011_3
          have HC120011_3 := mk hl120011_3
          clear hi120011_3 hl120011_3
          replace p120011 := eq_true p120011
          replace q120011 := eq_true q120011
          go_wp2_with (first | ((with_reducible refine gate_dst (N := 8) rfl ?_); (try (refine gate_guard (by rfl) ?_; dsimp only)); refine box_event (by rfl) (N := 8) (by rfl) (cs := #[.int .i64 0, .int .i64 0, .int .i64 0, .slice none 0 0, .int .i64 0, .int .i64 0, .int .i64 0, .int .i64 0, .bool false]) (t := 55) (by go_simp; done) ?_; intro gbz0 hg w33 hbox hb; replace HOz0 := mk (Kd.R_below HOz0.out hb); have BKz0 := mk (hbox); have GEz0 := mk ((by rw [hg]; exact (below_size HB.out) : w.heap.size ≤ gbz0)); replace HB := mk (below_step HB.out hb); have NBz1 := mk ((by rw [hg]; exact Nat.ne_of_lt (blk_lt BKz2.out) : gbz3 ≠ gbz0)); replace BKz2 := mk (blk_below BKz2.out hb); have NBz0 := mk ((by rw [hg]; exact Nat.ne_of_lt (blk_lt BKz1.out) : gbz2 ≠ gbz0)); have NBz5 := mk ((by rw [hg]; exact Nat.ne_of_gt (blk_lt BKz1.out) : gbz0 ≠ gbz2)); replace BKz1 := mk (blk_below BKz1.out hb); have NBz2 := mk ((by rw [hg]; exact Nat.ne_of_lt (blk_lt BKz3.out) : gbz1 ≠ gbz0)); have NBz6 := mk ((by rw [hg]; exact Nat.ne_of_gt (blk_lt BKz3.out) : gbz0 ≠ gbz1)); replace BKz3 := mk (blk_below BKz3.out hb); clear hb hbox hg; have hnc34 := NBz1.out; have hnb35 := NBz5.out; have hnc35 := NBz0.out; have hnb36 := NBz6.out; have hnc36 := NBz2.out; obtain ⟨hcz37_0, hcz37_1, hcz37_2, hcz37_3, hcz37_4, hcz37_5, hcz37_6, hcz37_7, hcz37_8, hfz37_0, hfz37_1, hfz37_2, hfz37_3, hfz37_4, hfz37_5, hfz37_6, hfz37_7, hfz37_8⟩ := c9 BKz0.out; have hnb38 := NBz7.out; have hnc38 := NBz8.out; have hnb39 := NBz3.out; have hnc39 := NBz9.out; have hcz40_2 : w33.cell? ⟨gbz3, 2, none⟩ = some (.int .i64 a0_2) := (blk_cell BKz2.out 2).trans rfl) | ((with_reducible refine gate_callee (f := 103) rfl ?_); refine goesL_ (some 29) rfl rfl Try.func103 (by kernel_rfl) rfl #[.agg #[.int .i64 ((rd_T55 l1 x22_2).f0.f0), .int .i64 ((rd_T55 l1 x22_2).f0.f1), .int .i64 ((rd_T55 l1 x22_2).f0.f2), .slice Az0 ((rd_T55 l1 x22_2).f0.f3).length cz0, .int .i64 ((rd_T55 l1 x22_2).f1), .int .i64 ((rd_T55 l1 x22_2).f2), .int .i64 ((rd_T55 l1 x22_2).f3), .int .i64 ((rd_T55 l1 x22_2).f4), .bool true], .int .i64 a0_2] rfl (by (try simp only [List.map_toArray, List.map_cons, List.map_nil]); rfl) ?_; (with_reducible refine (impl_isLayer.calls ((rd_T55 l1 x22_2).f0.f0) ((rd_T55 l1 x22_2).f0.f1) ((rd_T55 l1 x22_2).f0.f2) _ _ ((rd_T55 l1 x22_2).f0.f3) ((rd_T55 l1 x22_2).f1) ((rd_T55 l1 x22_2).f2) ((rd_T55 l1 x22_2).f3) ((rd_T55 l1 x22_2).f4) true a0_2 true _ ?side1 ?side2 A29.out).mono ?_); (case side1 => exact Kd.C_below HR120011_3.out (by repeat (with_reducible first | exact HB.out | refine below_set ?_ GEz0.out))); (case side2 => exact HC120011_3.out); rintro e w41 ⟨rfl, hb⟩; refine ⟨_, rfl, ?_⟩; replace HOz0 := mk (Kd.R_below (by exact (Kd.R_mono (Kd.R_far (p := ⟨gbz0, 8, none⟩) (Kd.R_far (p := ⟨gbz0, 7, none⟩) (Kd.R_far (p := ⟨gbz0, 6, none⟩) (Kd.R_far (p := ⟨gbz0, 5, none⟩) (Kd.R_far (p := ⟨gbz0, 4, none⟩) (Kd.R_far (p := ⟨gbz0, 3, none⟩) (Kd.R_far (p := ⟨gbz0, 2, none⟩) (Kd.R_far (p := ⟨gbz0, 1, none⟩) (Kd.R_far (p := ⟨gbz0, 0, none⟩) (Kd.R_types HOz0.out BKz0.out (by decide)) (fun _ hk => hk.2) (.int .i64 ((rd_T55 l1 x22_2).f0.f0))) (fun _ hk => hk.2) (.int .i64 ((rd_T55 l1 x22_2).f0.f1))) (fun _ hk => hk.2) (.int .i64 ((rd_T55 l1 x22_2).f0.f2))) (fun _ hk => hk.2) (.slice Az0 ((rd_T55 l1 x22_2).f0.f3).length cz0)) (fun _ hk => hk.2) (.int .i64 ((rd_T55 l1 x22_2).f1))) (fun _ hk => hk.2) (.int .i64 ((rd_T55 l1 x22_2).f2))) (fun _ hk => hk.2) (.int .i64 ((rd_T55 l1 x22_2).f3))) (fun _ hk => hk.2) (.int .i64 ((rd_T55 l1 x22_2).f4))) (fun _ hk => hk.2) (.bool true)) (fun _ h_ => h_.1))) hb); replace BKz2 := mk (blk_below (g := gbz3) (o := .cells #[.int .i64 a0_0, .int .i64 a0_1, .int .i64 a0_2, .slice A0_3 l0_3.length c0_3] 27 (0, 0)) (by refine blk_far ?_ NBz1.out _; refine blk_far ?_ NBz1.out _; refine blk_far ?_ NBz1.out _; refine blk_far ?_ NBz1.out _; refine blk_far ?_ NBz1.out _; refine blk_far ?_ NBz1.out _; refine blk_far ?_ NBz1.out _; refine blk_far ?_ NBz1.out _; refine blk_far ?_ NBz1.out _; exact BKz2.out) hb); replace BKz1 := mk (blk_below (g := gbz2) (o := .cells #[.int .i64 xz6, .int .i64 xz5, .int .i64 xz4, .slice none 0 0] 27 (0, 0)) (by refine blk_far ?_ NBz0.out _; refine blk_far ?_ NBz0.out _; refine blk_far ?_ NBz0.out _; refine blk_far ?_ NBz0.out _; refine blk_far ?_ NBz0.out _; refine blk_far ?_ NBz0.out _; refine blk_far ?_ NBz0.out _; refine blk_far ?_ NBz0.out _; refine blk_far ?_ NBz0.out _; exact BKz1.out) hb); replace BKz3 := mk (blk_below (g := gbz1) (o := .cells #[.int .i64 xz0, .int .i64 xz1, .int .i64 xz2, u120011003] 27 (0, 0)) (by refine blk_far ?_ NBz2.out _; refine blk_far ?_ NBz2.out _; refine blk_far ?_ NBz2.out _; refine blk_far ?_ NBz2.out _; refine blk_far ?_ NBz2.out _; refine blk_far ?_ NBz2.out _; refine blk_far ?_ NBz2.out _; refine blk_far ?_ NBz2.out _; refine blk_far ?_ NBz2.out _; exact BKz3.out) hb); replace BKz0 := mk (blk_below (g := gbz0) (o := .cells #[.int .i64 ((rd_T55 l1 x22_2).f0.f0), .int .i64 ((rd_T55 l1 x22_2).f0.f1), .int .i64 ((rd_T55 l1 x22_2).f0.f2), .slice Az0 ((rd_T55 l1 x22_2).f0.f3).length cz0, .int .i64 ((rd_T55 l1 x22_2).f1), .int .i64 ((rd_T55 l1 x22_2).f2), .int .i64 ((rd_T55 l1 x22_2).f3), .int .i64 ((rd_T55 l1 x22_2).f4), .bool true] 55 (0, 0)) (by refine blk_put (cs := #[.int .i64 ((rd_T55 l1 x22_2).f0.f0), .int .i64 ((rd_T55 l1 x22_2).f0.f1), .int .i64 ((rd_T55 l1 x22_2).f0.f2), .slice Az0 ((rd_T55 l1 x22_2).f0.f3).length cz0, .int .i64 ((rd_T55 l1 x22_2).f1), .int .i64 ((rd_T55 l1 x22_2).f2), .int .i64 ((rd_T55 l1 x22_2).f3), .int .i64 ((rd_T55 l1 x22_2).f4), .bool false]) ?_ 8 _ rfl; refine blk_put (cs := #[.int .i64 ((rd_T55 l1 x22_2).f0.f0), .int .i64 ((rd_T55 l1 x22_2).f0.f1), .int .i64 ((rd_T55 l1 x22_2).f0.f2), .slice Az0 ((rd_T55 l1 x22_2).f0.f3).length cz0, .int .i64 ((rd_T55 l1 x22_2).f1), .int .i64 ((rd_T55 l1 x22_2).f2), .int .i64 ((rd_T55 l1 x22_2).f3), .int .i64 0, .bool false]) ?_ 7 _ rfl; refine blk_put (cs := #[.int .i64 ((rd_T55 l1 x22_2).f0.f0), .int .i64 ((rd_T55 l1 x22_2).f0.f1), .int .i64 ((rd_T55 l1 x22_2).f0.f2), .slice Az0 ((rd_T55 l1 x22_2).f0.f3).length cz0, .int .i64 ((rd_T55 l1 x22_2).f1), .int .i64 ((rd_T55 l1 x22_2).f2), .int .i64 0, .int .i64 0, .bool false]) ?_ 6 _ rfl; refine blk_put (cs := #[.int .i64 ((rd_T55 l1 x22_2).f0.f0), .int .i64 ((rd_T55 l1 x22_2).f0.f1), .int .i64 ((rd_T55 l1 x22_2).f0.f2), .slice Az0 ((rd_T55 l1 x22_2).f0.f3).length cz0, .int .i64 ((rd_T55 l1 x22_2).f1), .int .i64 0, .int .i64 0, .int .i64 0, .bool false]) ?_ 5 _ rfl; refine blk_put (cs := #[.int .i64 ((rd_T55 l1 x22_2).f0.f0), .int .i64 ((rd_T55 l1 x22_2).f0.f1), .int .i64 ((rd_T55 l1 x22_2).f0.f2), .slice Az0 ((rd_T55 l1 x22_2).f0.f3).length cz0, .int .i64 0, .int .i64 0, .int .i64 0, .int .i64 0, .bool false]) ?_ 4 _ rfl; refine blk_put (cs := #[.int .i64 ((rd_T55 l1 x22_2).f0.f0), .int .i64 ((rd_T55 l1 x22_2).f0.f1), .int .i64 ((rd_T55 l1 x22_2).f0.f2), .slice none 0 0, .int .i64 0, .int .i64 0, .int .i64 0, .int .i64 0, .bool false]) ?_ 3 _ rfl; refine blk_put (cs := #[.int .i64 ((rd_T55 l1 x22_2).f0.f0), .int .i64 ((rd_T55 l1 x22_2).f0.f1), .int .i64 0, .slice none 0 0, .int .i64 0, .int .i64 0, .int .i64 0, .int .i64 0, .bool false]) ?_ 2 _ rfl; refine blk_put (cs := #[.int .i64 ((rd_T55 l1 x22_2).f0.f0), .int .i64 0, .int .i64 0, .slice none 0 0, .int .i64 0, .int .i64 0, .int .i64 0, .int .i64 0, .bool false]) ?_ 1 _ rfl; refine blk_put (cs := #[.int .i64 0, .int .i64 0, .int .i64 0, .slice none 0 0, .int .i64 0, .int .i64 0, .int .i64 0, .int .i64 0, .bool false]) ?_ 0 _ rfl; exact BKz0.out) hb); replace HB := mk (below_step (by repeat (with_reducible first | exact HB.out | refine below_set ?_ GEz0.out)) hb); (try clear hb); have hcz42_8 : w41.cell? ⟨gbz0, 8, none⟩ = some (.bool true) := (blk_cell BKz0.out 8).trans rfl))
          go_roundg k2
          case measure => have := HJ2.out; have := HK2.out; omega
          case rel => exact ⟨(wrap64 (x22_2 + 1)), (xz6), (xz5), (xz4), (xz0), (xz1), (xz2), (xz3), (u120011003), (by rfl), H', ⟨by have := HJ2.out; have := HK2.out; omega⟩, HOz0, BKz2, BKz1, BKz3, HB⟩
         replace c32 := Bool.eq_false_iff.mpr c32
         subst c32
         have H1 : ((impl_coverImage.f xz0 xz1 xz2 xz3 ((rd_T55 l1 x22_2).f0.f0) ((rd_T55 l1 x22_2).f0.f1) ((rd_T55 l1 x22_2).f0.f2) ((rd_T55 l1 x22_2).f0.f3) ((rd_T55 l1 x22_2).f1) ((rd_T55 l1 x22_2).f2) ((rd_T55 l1 x22_2).f3) ((rd_T55 l1 x22_2).f4) false).bind fun btz0 => (impl_flatten.l0 k2 l1 (l1.length : Int) (wrap64 (x22_2 + 1)) a0_0 a0_1 a0_2 l0_3 btz0.1 btz0.2.1 btz0.2.2.1 btz0.2.2.2)) = some (r1, r2, r3, r4, r5) := by rw [if_neg (show ¬ (false = true) by decide)] at H; exact H
         clear H
         have H := H1
         clear H1
         replace H := Option.bind_eq_some_iff.mp H
         obtain ⟨⟨tz1, tz4, tz7, tz8⟩, A430, H⟩ := H
         replace H : (impl_flatten.l0 k2 l1 (l1.length : Int) (wrap64 (x22_2 + 1)) a0_0 a0_1 a0_2 l0_3 tz1 tz4 tz7 tz8) = some (r1, r2, r3, r4, r5) := H
         have A43 := mk A430
         clear A430
         have H' := mk H
         clear H
         have p120011 : 0 ≤ (x22_2 : Int) := of_decide_eq_true (by (with_reducible assumption))
         have q120011 : x22_2 < (l1.length : Int) := of_decide_eq_true (by (with_reducible assumption))
         obtain ⟨ad120011, Az0, cz0, e120011, hx120011_0, hx120011_1, hx120011_2, hx120011_3, hx120011_4, hx120011_5, hx120011_6, hx120011_7, hx120011_8, hl120011_3, hi120011_3⟩ := at_T55 HR1.out x22_2 p120011 q120011
         (try rw [← Nbq31.out] at hx120011_8); (try rw [← Nbq31.out] at A29)
         cases e120011
         replace hx120011_0 := bc HB.out hx120011_0
         replace hx120011_1 := bc HB.out hx120011_1
         replace hx120011_2 := bc HB.out hx120011_2
         replace hx120011_3 := bc HB.out hx120011_3
         replace hx120011_4 := bc HB.out hx120011_4
         replace hx120011_5 := bc HB.out hx120011_5
         replace hx120011_6 := bc HB.out hx120011_6
         replace hx120011_7 := bc HB.out hx120011_7
         replace hx120011_8 := bc HB.out hx120011_8
         have HR120011_3 := mk hi120011_3
         have HC120011_3 := mk hl120011_3
         clear hi120011_3 hl120011_3
         replace p120011 := eq_true p120011
         replace q120011 := eq_true q120011
         go_wp2_with (first | ((with_reducible refine gate_dst (N := 8) rfl ?_); (try (refine gate_guard (by rfl) ?_; dsimp only)); refine box_event (by rfl) (N := 8) (by rfl) (cs := #[.int .i64 0, .int .i64 0, .int .i64 0, .slice none 0 0, .int .i64 0, .int .i64 0, .int .i64 0, .int .i64 0, .bool false]) (t := 55) (by go_simp; done) ?_; intro gbz0 hg w44 hbox hb; replace HOz0 := mk (Kd.R_below HOz0.out hb); have BKz0 := mk (hbox); have GEz0 := mk ((by rw [hg]; exact (below_size HB.out) : w.heap.size ≤ gbz0)); replace HB := mk (below_step HB.out hb); have NBz1 := mk ((by rw [hg]; exact Nat.ne_of_lt (blk_lt BKz2.out) : gbz3 ≠ gbz0)); replace BKz2 := mk (blk_below BKz2.out hb); have NBz0 := mk ((by rw [hg]; exact Nat.ne_of_lt (blk_lt BKz1.out) : gbz2 ≠ gbz0)); have NBz5 := mk ((by rw [hg]; exact Nat.ne_of_gt (blk_lt BKz1.out) : gbz0 ≠ gbz2)); replace BKz1 := mk (blk_below BKz1.out hb); have NBz2 := mk ((by rw [hg]; exact Nat.ne_of_lt (blk_lt BKz3.out) : gbz1 ≠ gbz0)); have NBz6 := mk ((by rw [hg]; exact Nat.ne_of_gt (blk_lt BKz3.out) : gbz0 ≠ gbz1)); replace BKz3 := mk (blk_below BKz3.out hb); clear hb hbox hg; have hnc45 := NBz1.out; have hnb46 := NBz5.out; have hnc46 := NBz0.out; have hnb47 := NBz6.out; have hnc47 := NBz2.out; obtain ⟨hcz48_0, hcz48_1, hcz48_2, hcz48_3, hcz48_4, hcz48_5, hcz48_6, hcz48_7, hcz48_8, hfz48_0, hfz48_1, hfz48_2, hfz48_3, hfz48_4, hfz48_5, hfz48_6, hfz48_7, hfz48_8⟩ := c9 BKz0.out; have hnb49 := NBz7.out; have hnc49 := NBz8.out; have hnb50 := NBz3.out; have hnc50 := NBz9.out; have hcz51_2 : w44.cell? ⟨gbz3, 2, none⟩ = some (.int .i64 a0_2) := (blk_cell BKz2.out 2).trans rfl) | ((with_reducible refine gate_callee (f := 103) rfl ?_); refine goesL_ (some 29) rfl rfl Try.func103 (by kernel_rfl) rfl #[.agg #[.int .i64 ((rd_T55 l1 x22_2).f0.f0), .int .i64 ((rd_T55 l1 x22_2).f0.f1), .int .i64 ((rd_T55 l1 x22_2).f0.f2), .slice Az0 ((rd_T55 l1 x22_2).f0.f3).length cz0, .int .i64 ((rd_T55 l1 x22_2).f1), .int .i64 ((rd_T55 l1 x22_2).f2), .int .i64 ((rd_T55 l1 x22_2).f3), .int .i64 ((rd_T55 l1 x22_2).f4), .bool false], .int .i64 a0_2] rfl (by (try simp only [List.map_toArray, List.map_cons, List.map_nil]); rfl) ?_; (with_reducible refine (impl_isLayer.calls ((rd_T55 l1 x22_2).f0.f0) ((rd_T55 l1 x22_2).f0.f1) ((rd_T55 l1 x22_2).f0.f2) _ _ ((rd_T55 l1 x22_2).f0.f3) ((rd_T55 l1 x22_2).f1) ((rd_T55 l1 x22_2).f2) ((rd_T55 l1 x22_2).f3) ((rd_T55 l1 x22_2).f4) false a0_2 true _ ?side1 ?side2 A29.out).mono ?_); (case side1 => exact Kd.C_below HR120011_3.out (by repeat (with_reducible first | exact HB.out | refine below_set ?_ GEz0.out))); (case side2 => exact HC120011_3.out); rintro e w52 ⟨rfl, hb⟩; refine ⟨_, rfl, ?_⟩; replace HOz0 := mk (Kd.R_below (by exact (Kd.R_mono (Kd.R_far (p := ⟨gbz0, 8, none⟩) (Kd.R_far (p := ⟨gbz0, 7, none⟩) (Kd.R_far (p := ⟨gbz0, 6, none⟩) (Kd.R_far (p := ⟨gbz0, 5, none⟩) (Kd.R_far (p := ⟨gbz0, 4, none⟩) (Kd.R_far (p := ⟨gbz0, 3, none⟩) (Kd.R_far (p := ⟨gbz0, 2, none⟩) (Kd.R_far (p := ⟨gbz0, 1, none⟩) (Kd.R_far (p := ⟨gbz0, 0, none⟩) (Kd.R_types HOz0.out BKz0.out (by decide)) (fun _ hk => hk.2) (.int .i64 ((rd_T55 l1 x22_2).f0.f0))) (fun _ hk => hk.2) (.int .i64 ((rd_T55 l1 x22_2).f0.f1))) (fun _ hk => hk.2) (.int .i64 ((rd_T55 l1 x22_2).f0.f2))) (fun _ hk => hk.2) (.slice Az0 ((rd_T55 l1 x22_2).f0.f3).length cz0)) (fun _ hk => hk.2) (.int .i64 ((rd_T55 l1 x22_2).f1))) (fun _ hk => hk.2) (.int .i64 ((rd_T55 l1 x22_2).f2))) (fun _ hk => hk.2) (.int .i64 ((rd_T55 l1 x22_2).f3))) (fun _ hk => hk.2) (.int .i64 ((rd_T55 l1 x22_2).f4))) (fun _ hk => hk.2) (.bool false)) (fun _ h_ => h_.1))) hb); replace BKz2 := mk (blk_below (g := gbz3) (o := .cells #[.int .i64 a0_0, .int .i64 a0_1, .int .i64 a0_2, .slice A0_3 l0_3.length c0_3] 27 (0, 0)) (by refine blk_far ?_ NBz1.out _; refine blk_far ?_ NBz1.out _; refine blk_far ?_ NBz1.out _; refine blk_far ?_ NBz1.out _; refine blk_far ?_ NBz1.out _; refine blk_far ?_ NBz1.out _; refine blk_far ?_ NBz1.out _; refine blk_far ?_ NBz1.out _; refine blk_far ?_ NBz1.out _; exact BKz2.out) hb); replace BKz1 := mk (blk_below (g := gbz2) (o := .cells #[.int .i64 xz6, .int .i64 xz5, .int .i64 xz4, .slice none 0 0] 27 (0, 0)) (by refine blk_far ?_ NBz0.out _; refine blk_far ?_ NBz0.out _; refine blk_far ?_ NBz0.out _; refine blk_far ?_ NBz0.out _; refine blk_far ?_ NBz0.out _; refine blk_far ?_ NBz0.out _; refine blk_far ?_ NBz0.out _; refine blk_far ?_ NBz0.out _; refine blk_far ?_ NBz0.out _; exact BKz1.out) hb); replace BKz3 := mk (blk_below (g := gbz1) (o := .cells #[.int .i64 xz0, .int .i64 xz1, .int .i64 xz2, u120011003] 27 (0, 0)) (by refine blk_far ?_ NBz2.out _; refine blk_far ?_ NBz2.out _; refine blk_far ?_ NBz2.out _; refine blk_far ?_ NBz2.out _; refine blk_far ?_ NBz2.out _; refine blk_far ?_ NBz2.out _; refine blk_far ?_ NBz2.out _; refine blk_far ?_ NBz2.out _; refine blk_far ?_ NBz2.out _; exact BKz3.out) hb); replace BKz0 := mk (blk_below (g := gbz0) (o := .cells #[.int .i64 ((rd_T55 l1 x22_2).f0.f0), .int .i64 ((rd_T55 l1 x22_2).f0.f1), .int .i64 ((rd_T55 l1 x22_2).f0.f2), .slice Az0 ((rd_T55 l1 x22_2).f0.f3).length cz0, .int .i64 ((rd_T55 l1 x22_2).f1), .int .i64 ((rd_T55 l1 x22_2).f2), .int .i64 ((rd_T55 l1 x22_2).f3), .int .i64 ((rd_T55 l1 x22_2).f4), .bool false] 55 (0, 0)) (by refine blk_put (cs := #[.int .i64 ((rd_T55 l1 x22_2).f0.f0), .int .i64 ((rd_T55 l1 x22_2).f0.f1), .int .i64 ((rd_T55 l1 x22_2).f0.f2), .slice Az0 ((rd_T55 l1 x22_2).f0.f3).length cz0, .int .i64 ((rd_T55 l1 x22_2).f1), .int .i64 ((rd_T55 l1 x22_2).f2), .int .i64 ((rd_T55 l1 x22_2).f3), .int .i64 ((rd_T55 l1 x22_2).f4), .bool false]) ?_ 8 _ rfl; refine blk_put (cs := #[.int .i64 ((rd_T55 l1 x22_2).f0.f0), .int .i64 ((rd_T55 l1 x22_2).f0.f1), .int .i64 ((rd_T55 l1 x22_2).f0.f2), .slice Az0 ((rd_T55 l1 x22_2).f0.f3).length cz0, .int .i64 ((rd_T55 l1 x22_2).f1), .int .i64 ((rd_T55 l1 x22_2).f2), .int .i64 ((rd_T55 l1 x22_2).f3), .int .i64 0, .bool false]) ?_ 7 _ rfl; refine blk_put (cs := #[.int .i64 ((rd_T55 l1 x22_2).f0.f0), .int .i64 ((rd_T55 l1 x22_2).f0.f1), .int .i64 ((rd_T55 l1 x22_2).f0.f2), .slice Az0 ((rd_T55 l1 x22_2).f0.f3).length cz0, .int .i64 ((rd_T55 l1 x22_2).f1), .int .i64 ((rd_T55 l1 x22_2).f2), .int .i64 0, .int .i64 0, .bool false]) ?_ 6 _ rfl; refine blk_put (cs := #[.int .i64 ((rd_T55 l1 x22_2).f0.f0), .int .i64 ((rd_T55 l1 x22_2).f0.f1), .int .i64 ((rd_T55 l1 x22_2).f0.f2), .slice Az0 ((rd_T55 l1 x22_2).f0.f3).length cz0, .int .i64 ((rd_T55 l1 x22_2).f1), .int .i64 0, .int .i64 0, .int .i64 0, .bool false]) ?_ 5 _ rfl; refine blk_put (cs := #[.int .i64 ((rd_T55 l1 x22_2).f0.f0), .int .i64 ((rd_T55 l1 x22_2).f0.f1), .int .i64 ((rd_T55 l1 x22_2).f0.f2), .slice Az0 ((rd_T55 l1 x22_2).f0.f3).length cz0, .int .i64 0, .int .i64 0, .int .i64 0, .int .i64 0, .bool false]) ?_ 4 _ rfl; refine blk_put (cs := #[.int .i64 ((rd_T55 l1 x22_2).f0.f0), .int .i64 ((rd_T55 l1 x22_2).f0.f1), .int .i64 ((rd_T55 l1 x22_2).f0.f2), .slice none 0 0, .int .i64 0, .int .i64 0, .int .i64 0, .int .i64 0, .bool false]) ?_ 3 _ rfl; refine blk_put (cs := #[.int .i64 ((rd_T55 l1 x22_2).f0.f0), .int .i64 ((rd_T55 l1 x22_2).f0.f1), .int .i64 0, .slice none 0 0, .int .i64 0, .int .i64 0, .int .i64 0, .int .i64 0, .bool false]) ?_ 2 _ rfl; refine blk_put (cs := #[.int .i64 ((rd_T55 l1 x22_2).f0.f0), .int .i64 0, .int .i64 0, .slice none 0 0, .int .i64 0, .int .i64 0, .int .i64 0, .int .i64 0, .bool false]) ?_ 1 _ rfl; refine blk_put (cs := #[.int .i64 0, .int .i64 0, .int .i64 0, .slice none 0 0, .int .i64 0, .int .i64 0, .int .i64 0, .int .i64 0, .bool false]) ?_ 0 _ rfl; exact BKz0.out) hb); replace HB := mk (below_step (by repeat (with_reducible first | exact HB.out | refine below_set ?_ GEz0.out)) hb); (try clear hb); obtain ⟨hcz53_0, hcz53_1, hcz53_2, hcz53_3, hcz53_4, hcz53_5, hcz53_6, hcz53_7, hcz53_8, -⟩ := c9 BKz0.out; obtain ⟨hcz55_0, hcz55_1, hcz55_2, -⟩ := c4 BKz3.out; have hcz55_3 : w52.cell? ⟨gbz1, 3, none⟩ = some u120011003 := (blk_cell BKz3.out 3).trans rfl; obtain ⟨Ao56, co56, eo56⟩ := Kd.R_slice HOz0.out; subst eo56) | ((with_reducible refine gate_callee (f := 105) rfl ?_); refine goesL_ (some 37) rfl rfl Try.func105 (by kernel_rfl) rfl #[.agg #[.int .i64 xz0, .int .i64 xz1, .int .i64 xz2, .slice Ao56 xz3.length co56], .agg #[.int .i64 ((rd_T55 l1 x22_2).f0.f0), .int .i64 ((rd_T55 l1 x22_2).f0.f1), .int .i64 ((rd_T55 l1 x22_2).f0.f2), .slice Az0 ((rd_T55 l1 x22_2).f0.f3).length cz0, .int .i64 ((rd_T55 l1 x22_2).f1), .int .i64 ((rd_T55 l1 x22_2).f2), .int .i64 ((rd_T55 l1 x22_2).f3), .int .i64 ((rd_T55 l1 x22_2).f4), .bool false]] rfl (by (try simp only [List.map_toArray, List.map_cons, List.map_nil]); rfl) ?_; (with_reducible refine (impl_coverImage.calls xz0 xz1 xz2 _ _ xz3 ((rd_T55 l1 x22_2).f0.f0) ((rd_T55 l1 x22_2).f0.f1) ((rd_T55 l1 x22_2).f0.f2) _ _ ((rd_T55 l1 x22_2).f0.f3) ((rd_T55 l1 x22_2).f1) ((rd_T55 l1 x22_2).f2) ((rd_T55 l1 x22_2).f3) ((rd_T55 l1 x22_2).f4) false tz1 tz4 tz7 tz8 _ ?side1 ?side2 ?side3 ?side4 A43.out).mono ?_); (case side1 => repeat (exact (Kd.R_reads' HOz0.out).2.2)); (case side2 => exact (Kd.R_reads' HOz0.out).2.1); (case side3 => repeat (exact (Kd.C_below HR120011_3.out HB.out))); (case side4 => exact HC120011_3.out); rintro e w57 ⟨vz1, rfl, ho0, hb⟩; refine ⟨_, rfl, ?_⟩; have n0_ := mk (Kd.R_elder' HOz0.out (Kd.R_base ho0) hb); have n1_ := mk (Kd.R_lower (Kd.R_new' ho0 (Kd.R_lt HOz0.out)) (below_size HB.out)); have n2_ := mk (blk_below BKz2.out hb); have n3_ := mk (blk_below BKz1.out hb); have n4_ := mk (blk_below BKz3.out hb); have n6_ := mk (below_step HB.out hb); clear HOz0; clear BKz2; clear BKz1; clear BKz3; clear BKz0; clear HB; have HOz0 := n0_; have HOz2 := n1_; have BKz2 := n2_; have BKz1 := n3_; have BKz3 := n4_; have HB := n6_; (try clear hb); (try clear ho0); obtain ⟨hcz58_0, hcz58_1, hcz58_2, hcz58_3, hfz58_0, hfz58_1, hfz58_2, hfz58_3⟩ := c4 BKz3.out; obtain ⟨Ao59, co59, eo59⟩ := Kd.R_slice HOz2.out; subst eo59))
         go_roundg k2
         case measure => have := HJ2.out; have := HK2.out; omega
         case rel => exact ⟨(wrap64 (x22_2 + 1)), (xz6), (xz5), (xz4), (tz1), (tz4), (tz7), (tz8), (.slice Ao59 tz8.length co59), (by rfl), H', ⟨by have := HJ2.out; have := HK2.out; omega⟩, ⟨by exact Kd.R_mono (Kd.R_far (p := ⟨gbz1, 3, none⟩) (Kd.R_far (p := ⟨gbz1, 2, none⟩) (Kd.R_far (p := ⟨gbz1, 1, none⟩) (Kd.R_far (p := ⟨gbz1, 0, none⟩) (Kd.R_types HOz2.out BKz3.out (by decide)) (fun _ hk => hk.2) (.int .i64 tz1)) (fun _ hk => hk.2) (.int .i64 tz4)) (fun _ hk => hk.2) (.int .i64 tz7)) (fun _ hk => hk.2) (.slice Ao59 tz8.length co59)) (fun _ hk => trivial)⟩, ⟨by refine blk_far ?_ NBz3.out _; refine blk_far ?_ NBz3.out _; refine blk_far ?_ NBz3.out _; refine blk_far ?_ NBz3.out _; exact BKz2.out⟩, ⟨by refine blk_far ?_ NBz4.out _; refine blk_far ?_ NBz4.out _; refine blk_far ?_ NBz4.out _; refine blk_far ?_ NBz4.out _; exact BKz1.out⟩, ⟨by refine blk_put (cs := #[.int .i64 tz1, .int .i64 tz4, .int .i64 tz7, .slice Ao56 xz3.length co56]) ?_ 3 _ rfl; refine blk_put (cs := #[.int .i64 tz1, .int .i64 tz4, .int .i64 xz2, .slice Ao56 xz3.length co56]) ?_ 2 _ rfl; refine blk_put (cs := #[.int .i64 tz1, .int .i64 xz1, .int .i64 xz2, .slice Ao56 xz3.length co56]) ?_ 1 _ rfl; refine blk_put (cs := #[.int .i64 xz0, .int .i64 xz1, .int .i64 xz2, .slice Ao56 xz3.length co56]) ?_ 0 _ rfl; exact BKz3.out⟩, ⟨by repeat (with_reducible first | exact HB.out | refine below_set ?_ GEz2.out)⟩⟩
        replace c30 := Bool.eq_false_iff.mpr c30
        subst c30
        have H1 : (some (0, 0, 0, ([] : List Int), false)) = some (r1, r2, r3, r4, r5) := by rw [if_neg (show ¬ (false = true) by decide)] at H; exact H
        clear H
        have H := H1
        clear H1
        simp only [Option.some.injEq, Prod.mk.injEq] at H
        obtain ⟨rfl, rfl, rfl, rfl, rfl⟩ := H
        have p120011 : 0 ≤ (x22_2 : Int) := of_decide_eq_true (by (with_reducible assumption))
        have q120011 : x22_2 < (l1.length : Int) := of_decide_eq_true (by (with_reducible assumption))
        obtain ⟨ad120011, Az0, cz0, e120011, hx120011_0, hx120011_1, hx120011_2, hx120011_3, hx120011_4, hx120011_5, hx120011_6, hx120011_7, hx120011_8, hl120011_3, hi120011_3⟩ := at_T55 HR1.out x22_2 p120011 q120011
        cases e120011
        replace hx120011_0 := bc HB.out hx120011_0
        replace hx120011_1 := bc HB.out hx120011_1
        replace hx120011_2 := bc HB.out hx120011_2
        replace hx120011_3 := bc HB.out hx120011_3
        replace hx120011_4 := bc HB.out hx120011_4
        replace hx120011_5 := bc HB.out hx120011_5
        replace hx120011_6 := bc HB.out hx120011_6
        replace hx120011_7 := bc HB.out hx120011_7
        replace hx120011_8 := bc HB.out hx120011_8
        have HR120011_3 := mk hi120011_3
        have HC120011_3 := mk hl120011_3
        clear hi120011_3 hl120011_3
        replace p120011 := eq_true p120011
        replace q120011 := eq_true q120011
        go_wp2_with (first | ((with_reducible refine gate_dst (N := 8) rfl ?_); (try (refine gate_guard (by rfl) ?_; dsimp only)); refine box_event (by rfl) (N := 8) (by rfl) (cs := #[.int .i64 0, .int .i64 0, .int .i64 0, .slice none 0 0, .int .i64 0, .int .i64 0, .int .i64 0, .int .i64 0, .bool false]) (t := 55) (by go_simp; done) ?_; intro gbz0 hg w60 hbox hb; replace HOz0 := mk (Kd.R_below HOz0.out hb); have BKz0 := mk (hbox); have GEz0 := mk ((by rw [hg]; exact (below_size HB.out) : w.heap.size ≤ gbz0)); replace HB := mk (below_step HB.out hb); have NBz1 := mk ((by rw [hg]; exact Nat.ne_of_lt (blk_lt BKz2.out) : gbz3 ≠ gbz0)); replace BKz2 := mk (blk_below BKz2.out hb); have NBz0 := mk ((by rw [hg]; exact Nat.ne_of_lt (blk_lt BKz1.out) : gbz2 ≠ gbz0)); have NBz5 := mk ((by rw [hg]; exact Nat.ne_of_gt (blk_lt BKz1.out) : gbz0 ≠ gbz2)); replace BKz1 := mk (blk_below BKz1.out hb); have NBz2 := mk ((by rw [hg]; exact Nat.ne_of_lt (blk_lt BKz3.out) : gbz1 ≠ gbz0)); have NBz6 := mk ((by rw [hg]; exact Nat.ne_of_gt (blk_lt BKz3.out) : gbz0 ≠ gbz1)); replace BKz3 := mk (blk_below BKz3.out hb); clear hb hbox hg; have hnc61 := NBz1.out; have hnb62 := NBz5.out; have hnc62 := NBz0.out; have hnb63 := NBz6.out; have hnc63 := NBz2.out; obtain ⟨hcz64_0, hcz64_1, hcz64_2, hcz64_3, hcz64_4, hcz64_5, hcz64_6, hcz64_7, hcz64_8, hfz64_0, hfz64_1, hfz64_2, hfz64_3, hfz64_4, hfz64_5, hfz64_6, hfz64_7, hfz64_8⟩ := c9 BKz0.out; have hnb65 := NBz7.out; have hnc65 := NBz8.out; have hnb66 := NBz3.out; have hnc66 := NBz9.out; have hcz67_2 : w60.cell? ⟨gbz3, 2, none⟩ = some (.int .i64 a0_2) := (blk_cell BKz2.out 2).trans rfl) | ((with_reducible refine gate_callee (f := 103) rfl ?_); refine goesL_ (some 29) rfl rfl Try.func103 (by kernel_rfl) rfl #[.agg #[.int .i64 ((rd_T55 l1 x22_2).f0.f0), .int .i64 ((rd_T55 l1 x22_2).f0.f1), .int .i64 ((rd_T55 l1 x22_2).f0.f2), .slice Az0 ((rd_T55 l1 x22_2).f0.f3).length cz0, .int .i64 ((rd_T55 l1 x22_2).f1), .int .i64 ((rd_T55 l1 x22_2).f2), .int .i64 ((rd_T55 l1 x22_2).f3), .int .i64 ((rd_T55 l1 x22_2).f4), .bool ((rd_T55 l1 x22_2).f5)], .int .i64 a0_2] rfl (by (try simp only [List.map_toArray, List.map_cons, List.map_nil]); rfl) ?_; (with_reducible refine (impl_isLayer.calls ((rd_T55 l1 x22_2).f0.f0) ((rd_T55 l1 x22_2).f0.f1) ((rd_T55 l1 x22_2).f0.f2) _ _ ((rd_T55 l1 x22_2).f0.f3) ((rd_T55 l1 x22_2).f1) ((rd_T55 l1 x22_2).f2) ((rd_T55 l1 x22_2).f3) ((rd_T55 l1 x22_2).f4) ((rd_T55 l1 x22_2).f5) a0_2 false _ ?side1 ?side2 A29.out).mono ?_); (case side1 => exact Kd.C_below HR120011_3.out (by repeat (with_reducible first | exact HB.out | refine below_set ?_ GEz0.out))); (case side2 => exact HC120011_3.out); rintro e w68 ⟨rfl, hb⟩; refine ⟨_, rfl, ?_⟩; have n2_ := mk (blk_below (g := gbz2) (o := .cells #[.int .i64 xz6, .int .i64 xz5, .int .i64 xz4, .slice none 0 0] 27 (0, 0)) (by refine blk_far ?_ NBz0.out _; refine blk_far ?_ NBz0.out _; refine blk_far ?_ NBz0.out _; refine blk_far ?_ NBz0.out _; refine blk_far ?_ NBz0.out _; refine blk_far ?_ NBz0.out _; refine blk_far ?_ NBz0.out _; refine blk_far ?_ NBz0.out _; refine blk_far ?_ NBz0.out _; exact BKz1.out) hb); have n5_ := mk (below_step (by repeat (with_reducible first | exact HB.out | refine below_set ?_ GEz0.out)) hb); clear HOz0; clear BKz2; clear BKz1; clear BKz3; clear BKz0; clear HB; have BKz1 := n2_; have HB := n5_; (try clear hb); obtain ⟨hcz70_0, hcz70_1, hcz70_2, hcz70_3, hfz70_0, hfz70_1, hfz70_2, hfz70_3⟩ := c4 BKz1.out))
        refine bodyPost_ret (results_ct rfl _ _ gbz2 27 #[.int .i64 0, .int .i64 0, .int .i64 0, .slice none 0 0] (0, 0) _ rfl (by refine blk_put (cs := #[.int .i64 0, .int .i64 0, .int .i64 0, .slice none 0 0]) ?_ 3 _ rfl; refine blk_put (cs := #[.int .i64 0, .int .i64 0, .int .i64 xz4, .slice none 0 0]) ?_ 2 _ rfl; refine blk_put (cs := #[.int .i64 0, .int .i64 xz5, .int .i64 xz4, .slice none 0 0]) ?_ 1 _ rfl; refine blk_put (cs := #[.int .i64 xz6, .int .i64 xz5, .int .i64 xz4, .slice none 0 0]) ?_ 0 _ rfl; exact BKz1.out) Try.underlying27 rfl (by kernel_rfl)) rfl ?_
        exact ⟨_, by rfl, by exact Kd.R_nil _ _ _ _ _, by repeat (with_reducible first | exact HB.out | refine below_set ?_ GEz1.out)⟩
       rw [if_neg c28] at H
       exact absurd H (by simp)
      rw [if_neg c27] at H
      exact absurd H (by simp)
     rw [if_neg c26] at H
     have c26b0 : decide (x22_2 < (l1.length : Int)) = false := decide_eq_false c26
     clear c26
     simp only [Option.some.injEq, Prod.mk.injEq] at H
     obtain ⟨rfl, rfl, rfl, rfl, rfl⟩ := H
     obtain ⟨hcz73_0, hcz73_1, hcz73_2, -⟩ := c4 BKz3.out
     have hcz73_3 : wr.cell? ⟨gbz1, 3, none⟩ = some u120011003 := (blk_cell BKz3.out 3).trans rfl
     obtain ⟨hcz75_0, hcz75_1, hcz75_2, hcz75_3, hfz75_0, hfz75_1, hfz75_2, hfz75_3⟩ := c4 BKz1.out
     obtain ⟨Ao76, co76, eo76⟩ := Kd.R_slice HOz0.out
     subst eo76
     go_wp2
     refine bodyPost_ret (results_ct rfl _ _ gbz2 27 #[.int .i64 xz0, .int .i64 xz1, .int .i64 xz2, .slice Ao76 xz3.length co76] (0, 0) _ rfl (by refine blk_put (cs := #[.int .i64 xz0, .int .i64 xz1, .int .i64 xz2, .slice none 0 0]) ?_ 3 _ rfl; refine blk_put (cs := #[.int .i64 xz0, .int .i64 xz1, .int .i64 xz4, .slice none 0 0]) ?_ 2 _ rfl; refine blk_put (cs := #[.int .i64 xz0, .int .i64 xz5, .int .i64 xz4, .slice none 0 0]) ?_ 1 _ rfl; refine blk_put (cs := #[.int .i64 xz6, .int .i64 xz5, .int .i64 xz4, .slice none 0 0]) ?_ 0 _ rfl; exact BKz1.out) Try.underlying27 rfl (by kernel_rfl)) rfl ?_
     exact ⟨_, by rfl, by exact Kd.R_mono (Kd.R_far (p := ⟨gbz2, 3, none⟩) (Kd.R_far (p := ⟨gbz2, 2, none⟩) (Kd.R_far (p := ⟨gbz2, 1, none⟩) (Kd.R_far (p := ⟨gbz2, 0, none⟩) (Kd.R_types HOz0.out BKz1.out (by decide)) (fun _ hk => hk.2) (.int .i64 xz0)) (fun _ hk => hk.2) (.int .i64 xz1)) (fun _ hk => hk.2) (.int .i64 xz2)) (fun _ hk => hk.2) (.slice Ao76 xz3.length co76)) (fun _ hk => trivial), by repeat (with_reducible first | exact HB.out | refine below_set ?_ GEz1.out)⟩


def impl_FlattenLayers.f (k : Nat) (a0_0 : Int) (a0_1 : Int) (a0_2 : Int) (l0_3 : List Int) (l1 : List S55) : Option (Int × Int × Int × List Int × Bool) := (impl_flatten.f k a0_0 a0_1 a0_2 l0_3 l1).bind fun btz0 => (some (btz0.1, btz0.2.1, btz0.2.2.1, btz0.2.2.2.1, btz0.2.2.2.2))
theorem impl_FlattenLayers.mono : ∀ a0 a1 a2 a3 a4 k, LeO (impl_FlattenLayers.f k a0 a1 a2 a3 a4) (impl_FlattenLayers.f (k + 1) a0 a1 a2 a3 a4) := by
 intro a0 a1 a2 a3 a4 k
 unfold impl_FlattenLayers.f
 repeat' first | (with_reducible exact impl_flatten.mono _ _ _ _ _ _) | (with_reducible exact LeO.refl _) | (with_reducible refine LeO.bind ?_ (fun _ => ?_))
set_option maxHeartbeats 8000000 in
set_option maxRecDepth 100000 in
theorem impl_FlattenLayers.calls (k : Nat) (a0_0 : Int) (a0_1 : Int) (a0_2 : Int) (A0_3 : Option Addr) (c0_3 : Nat) (l0_3 : List Int) (A1 : Option Addr) (c1 : Nat) (l1 : List S55) (r1 : Int) (r2 : Int) (r3 : Int) (r4 : List Int) (r5 : Bool) (w : World) (hr0_3 : Kd.C (Kd.int .i64) w A0_3 l0_3.length l0_3) (hc0_3 : l0_3.length ≤ c0_3) (hr1 : Kd.C k55 w A1 l1.length l1) (hc1 : l1.length ≤ c1) (h : impl_FlattenLayers.f k a0_0 a0_1 a0_2 l0_3 l1 = some (r1, r2, r3, r4, r5)) :
  Calls Try.prog 67 #[.agg #[.int .i64 a0_0, .int .i64 a0_1, .int .i64 a0_2, .slice A0_3 l0_3.length c0_3], .slice A1 l1.length c1] w fun e w' => ∃ v3_ : Value, e = .returned (.tuple #[.agg #[.int .i64 r1, .int .i64 r2, .int .i64 r3, v3_], .bool r5]) ∧ Kd.R (Kd.int .i64) 3 w' w.heap.size (fun _ => True) v3_ r4 ∧ Below w.heap.size w w' := by
 have hu27 := Try.underlying27
 have HR0_3 := mk hr0_3
 have HC0_3 := mk hc0_3
 clear hr0_3 hc0_3
 have HR1 := mk hr1
 have HC1 := mk hc1
 clear hr1 hc1
 have HB := mk (Below.refl w.heap.size w)
 have H : ((impl_flatten.f k a0_0 a0_1 a0_2 l0_3 l1).bind fun btz0 => (some (btz0.1, btz0.2.1, btz0.2.2.1, btz0.2.2.2.1, btz0.2.2.2.2))) = some (r1, r2, r3, r4, r5) := h
 clear h
 replace H := Option.bind_eq_some_iff.mp H
 obtain ⟨⟨tz0, tz1, tz2, tz3, tz4⟩, A30, H⟩ := H
 replace H : (some (tz0, tz1, tz2, tz3, tz4)) = some (r1, r2, r3, r4, r5) := H
 have A3 := mk A30
 clear A30
 simp only [Option.some.injEq, Prod.mk.injEq] at H
 obtain ⟨rfl, rfl, rfl, rfl, rfl⟩ := H
 go_enter Try.func67, Try.ntmps67
 go_wp2_with (first | ((with_reducible refine gate_dst (N := 2) rfl ?_); refine box_event (by rfl) (N := 2) (by rfl) (cs := #[.int .i64 a0_0, .int .i64 a0_1, .int .i64 a0_2, .slice A0_3 l0_3.length c0_3]) (t := 27) (by go_simp; done) ?_; intro gbz1 hg w4 hbox hb; replace HB := mk (below_step HB.out hb); have BKz1 := mk (hbox); clear hb hbox hg) | ((with_reducible refine gate_dst (N := 4) rfl ?_); refine box_event (by rfl) (N := 4) (by rfl) (cs := #[.int .i64 0, .int .i64 0, .int .i64 0, .slice none 0 0]) (t := 27) (by go_simp; done) ?_; intro gbz0 hg w5 hbox hb; replace BKz1 := mk (blk_below BKz1.out hb); have BKz0 := mk (hbox); have GEz0 := mk ((by rw [hg]; exact (below_size HB.out) : w.heap.size ≤ gbz0)); replace HB := mk (below_step HB.out hb); clear hb hbox hg; obtain ⟨hcz7_0, hcz7_1, hcz7_2, -⟩ := c4 BKz1.out; have hcz7_3 : w5.cell? ⟨gbz1, 3, none⟩ = some (.slice A0_3 l0_3.length c0_3) := (blk_cell BKz1.out 3).trans rfl) | ((with_reducible refine gate_callee (f := 119) rfl ?_); refine goesL_ (some 8) rfl rfl Try.func119 (by kernel_rfl) rfl #[.agg #[.int .i64 a0_0, .int .i64 a0_1, .int .i64 a0_2, .slice A0_3 l0_3.length c0_3], .slice A1 l1.length c1] rfl (by (try simp only [List.map_toArray, List.map_cons, List.map_nil]); rfl) ?_; (with_reducible refine (impl_flatten.calls k a0_0 a0_1 a0_2 _ _ l0_3 _ _ l1 tz0 tz1 tz2 tz3 tz4 _ ?side1 ?side2 ?side3 ?side4 A3.out).mono ?_); (case side1 => repeat (exact (Kd.C_below HR0_3.out HB.out))); (case side2 => exact HC0_3.out); (case side3 => repeat (exact (Kd.C_below HR1.out HB.out))); (case side4 => exact HC1.out); rintro e w8 ⟨vz0, rfl, ho0, hb⟩; refine ⟨_, rfl, ?_⟩; have n0_ := mk (Kd.R_lower ho0 (below_size HB.out)); have n2_ := mk (blk_below BKz0.out hb); have n3_ := mk (below_step HB.out hb); clear BKz1; clear BKz0; clear HB; have HOz0 := n0_; have BKz0 := n2_; have HB := n3_; (try clear hb); (try clear ho0); obtain ⟨hcz9_0, hcz9_1, hcz9_2, hcz9_3, hfz9_0, hfz9_1, hfz9_2, hfz9_3⟩ := c4 BKz0.out; obtain ⟨Ao10, co10, eo10⟩ := Kd.R_slice HOz0.out; subst eo10))
 refine bodyPost_ret (results_ct rfl _ _ gbz0 27 #[.int .i64 tz0, .int .i64 tz1, .int .i64 tz2, .slice Ao10 tz3.length co10] (0, 0) _ rfl (by refine blk_put (cs := #[.int .i64 tz0, .int .i64 tz1, .int .i64 tz2, .slice none 0 0]) ?_ 3 _ rfl; refine blk_put (cs := #[.int .i64 tz0, .int .i64 tz1, .int .i64 0, .slice none 0 0]) ?_ 2 _ rfl; refine blk_put (cs := #[.int .i64 tz0, .int .i64 0, .int .i64 0, .slice none 0 0]) ?_ 1 _ rfl; refine blk_put (cs := #[.int .i64 0, .int .i64 0, .int .i64 0, .slice none 0 0]) ?_ 0 _ rfl; exact BKz0.out) Try.underlying27 rfl (by kernel_rfl)) rfl ?_
 exact ⟨_, by rfl, by exact Kd.R_mono (Kd.R_far (p := ⟨gbz0, 3, none⟩) (Kd.R_far (p := ⟨gbz0, 2, none⟩) (Kd.R_far (p := ⟨gbz0, 1, none⟩) (Kd.R_far (p := ⟨gbz0, 0, none⟩) (Kd.R_types HOz0.out BKz0.out (by decide)) (fun _ hk => hk.2) (.int .i64 tz0)) (fun _ hk => hk.2) (.int .i64 tz1)) (fun _ hk => hk.2) (.int .i64 tz2)) (fun _ hk => hk.2) (.slice Ao10 tz3.length co10)) (fun _ hk => trivial), by repeat (with_reducible first | exact HB.out | refine below_set ?_ GEz0.out)⟩

end Go.Proofs.Ytnofkbbcbpjhfaa.Q

namespace Go.Proofs.Ytnofkbbcbpjhfaa.Q
open Go.RowKit Go.Proofs.YtnofkbbcbpjhfaaW.PrintWords Go.Proofs.YtnofkbbcbpjhfaaW.PrintLast Go.Proofs.YtnofkbbcbpjhfaaW.PrintMore
attribute [local go_sem] max2_int min2_int max_two min_two max_three min_three max_four min_four
set_option linter.unusedVariables false
set_option linter.unusedSimpArgs false
def IsS144 (w0 W : World) (g : Nat) (f0 : List Int) (f1 : Int) : Prop := ∃ A0 c0, W.heap[g]? = some (.cells #[.slice A0 f0.length c0, .int .i64 f1] 144 (0, 0)) ∧ w0.heap.size ≤ g ∧ Kd.C (Kd.int .u8) w0 A0 f0.length f0
theorem IsS144.grown {w0 W : World} {g : Nat} {f0 : List Int} {f1 : Int} {W1 : World} {row : Option Nat} (h : IsS144 w0 W g f0 f1) (hw : W.grownBy W1 row) (hne : some g ≠ row) : IsS144 w0 W1 g f0 f1 := by
 obtain ⟨A0, c0, hb, hg, hr0⟩ := h
 exact ⟨A0, c0, blk_grown hb hw hne, hg, hr0⟩
theorem IsS144.own_neN {w0 W : World} {g : Nat} {f0 : List Int} {f1 : Int} {α : Type} {d : Kd α} {e : Nat} {base : Nat} {ok : Nat → Prop} {v : Value} {xs : List α} (h : IsS144 w0 W g f0 f1) (ho : Kd.N d e W base ok v xs) (ht : e ≠ 144) : some g ≠ v.ownBlock := by
 obtain ⟨A0, c0, hb, hg, hr0⟩ := h
 exact Kd.N_ne ho hb ht
theorem IsS144.fresh {w0 W : World} {g : Nat} {f0 : List Int} {f1 : Int} (h : IsS144 w0 W g f0 f1) : ∀ k, W.heap.size ≤ k → k ≠ g := by
 obtain ⟨A0, c0, hb, hg, hr0⟩ := h
 exact Kd.freshB hb
theorem IsS144.kept {w0 W : World} {g : Nat} {f0 : List Int} {f1 : Int} {W1 : World} {S : Nat → Prop} (h : IsS144 w0 W g f0 f1) (hk : Kept W W1 S) (hne : ¬ S g) : IsS144 w0 W1 g f0 f1 := by
 obtain ⟨A0, c0, hb, hg, hr0⟩ := h
 exact ⟨A0, c0, blk_kept hb hk hne, hg, hr0⟩
theorem IsS144.below {w0 W : World} {g : Nat} {f0 : List Int} {f1 : Int} {W1 : World} (h : IsS144 w0 W g f0 f1) (hw : Below W.heap.size W W1) : IsS144 w0 W1 g f0 f1 := h.grown (grown_of_below hw none) (by simp)
theorem IsS144.alloc {w0 W : World} {g : Nat} {f0 : List Int} {f1 : Int} (h : IsS144 w0 W g f0 f1) (o : Obj) : IsS144 w0 (W.alloc o) g f0 f1 := h.below (below_alloc (Below.refl _ _) o)
theorem IsS144.drewN {w0 W : World} {g : Nat} {f0 : List Int} {f1 : Int} (h : IsS144 w0 W g f0 f1) (m : Nat) : IsS144 w0 (W.drewN m) g f0 f1 := h
theorem IsS144.drew {w0 W : World} {g : Nat} {f0 : List Int} {f1 : Int} (h : IsS144 w0 W g f0 f1) : IsS144 w0 W.drew g f0 f1 := h
theorem IsS144.at_ {w0 W : World} {g : Nat} {f0 : List Int} {f1 : Int} {w' : World} {m : Nat} (hq : W.drewN m = w') (h : IsS144 w0 W g f0 f1) : IsS144 w0 w' g f0 f1 := by subst hq; exact IsS144.drewN h m
theorem IsS144.apart {w0 W : World} {g : Nat} {f0 : List Int} {f1 : Int} {α : Type} {d : Kd α} {e : Nat} {base : Nat} {ok : Nat → Prop} {v : Value} {xs : List α} (h : IsS144 w0 W g f0 f1) (ho : d.R e W base ok v xs) (ht : ∀ q, q ∈ e :: d.E → q ≠ 144) : d.R e W base (fun k => ok k ∧ k ≠ g) v xs := by
 obtain ⟨A0, c0, hb, hg, hr0⟩ := h
 exact Kd.R_types ho hb ht
theorem IsS144.own_ne {w0 W : World} {g : Nat} {f0 : List Int} {f1 : Int} {α : Type} {d : Kd α} {e : Nat} {base : Nat} {ok : Nat → Prop} {v : Value} {xs : List α} (h : IsS144 w0 W g f0 f1) (ho : d.R e W base ok v xs) (ht : e ≠ 144) : some g ≠ v.ownBlock := by
 obtain ⟨A0, c0, hb, hg, hr0⟩ := h
 exact Kd.R_ne ho hb ht
theorem IsS144.apartQ {w0 W : World} {g : Nat} {f0 : List Int} {f1 : Int} {α : Type} {d : Kd α} {e : Nat} {base : Nat} {ok : Nat → Prop} {v : Value} {xs : List α} (h : IsS144 w0 W g f0 f1) (ho : d.Q e W base ok v xs) (ht : ∀ q, q ∈ e :: d.E → q ≠ 144) : d.Q e W base (fun k => ok k ∧ k ≠ g) v xs := by
 obtain ⟨A0, c0, hb, hg, hr0⟩ := h
 exact Kd.Q_types ho hb ht
theorem IsS144.own_neQ {w0 W : World} {g : Nat} {f0 : List Int} {f1 : Int} {α : Type} {d : Kd α} {e : Nat} {base : Nat} {ok : Nat → Prop} {v : Value} {xs : List α} (h : IsS144 w0 W g f0 f1) (ho : d.Q e W base ok v xs) (ht : e ≠ 144) : some g ≠ v.ownBlock := by
 obtain ⟨A0, c0, hb, hg, hr0⟩ := h
 exact Kd.Q_ne ho hb ht
theorem IsS144.apartS {w0 W : World} {g : Nat} {f0 : List Int} {f1 : Int} {α : Type} {d : Kd α} {e : Nat} {base : Nat} {ok : Nat → Prop} {v : Value} {xs : List α} (h : IsS144 w0 W g f0 f1) (ho : d.S e W base ok v xs) (ht : ∀ q, q ∈ e :: d.E → q ≠ 144) : d.S e W base (fun k => ok k ∧ k ≠ g) v xs := by
 obtain ⟨A0, c0, hb, hg, hr0⟩ := h
 exact Kd.S_types ho hb ht
theorem IsS144.own_neS {w0 W : World} {g : Nat} {f0 : List Int} {f1 : Int} {α : Type} {d : Kd α} {e : Nat} {base : Nat} {ok : Nat → Prop} {v : Value} {xs : List α} (h : IsS144 w0 W g f0 f1) (ho : d.S e W base ok v xs) (ht : e ≠ 144) : some g ≠ v.ownBlock := by
 obtain ⟨A0, c0, hb, hg, hr0⟩ := h
 exact Kd.S_ne ho hb ht
theorem IsS144.lt {w0 W : World} {g : Nat} {f0 : List Int} {f1 : Int} (h : IsS144 w0 W g f0 f1) : g < W.heap.size := by
 obtain ⟨A0, c0, hb, hg, hr0⟩ := h
 exact blk_lt hb
theorem IsS144.ge {w0 W : World} {g : Nat} {f0 : List Int} {f1 : Int} (h : IsS144 w0 W g f0 f1) : w0.heap.size ≤ g := by
 obtain ⟨A0, c0, hb, hg, hr0⟩ := h
 exact hg
theorem IsS144.ne_blk {w0 W : World} {g : Nat} {f0 : List Int} {f1 : Int} {a : Nat} {cs : Array Value} {t : TypeId} {fr : Nat × Nat} (h : IsS144 w0 W g f0 f1) (hb2 : W.heap[a]? = some (.cells cs t fr)) (ht : t ≠ 144) : g ≠ a := by
 obtain ⟨A0, c0, hb, hg, hr0⟩ := h
 rintro rfl
 rw [hb] at hb2
 injection hb2 with hb2
 injection hb2 with _ ht2
 exact ht ht2.symm
theorem IsS144.far {w0 W : World} {g : Nat} {f0 : List Int} {f1 : Int} {p : Addr} (h : IsS144 w0 W g f0 f1) (hne : g ≠ p.block) (u : Value) : IsS144 w0 (W.setCell p u) g f0 f1 := by
 obtain ⟨A0, c0, hb, hg, hr0⟩ := h
 exact ⟨A0, c0, blk_far hb hne u, hg, hr0⟩
theorem cellS144_0 {W : World} {g : Nat} {A0 : Option Addr} {c0 : Nat} {f0 : List Int} {f1 : Int} (h : W.heap[g]? = some (.cells #[.slice A0 f0.length c0, .int .i64 f1] 144 (0, 0))) : W.cell? ⟨g, 0, none⟩ = some (.slice A0 f0.length c0) := (blk_cell h 0).trans rfl
theorem cellS144_1 {W : World} {g : Nat} {A0 : Option Addr} {c0 : Nat} {f0 : List Int} {f1 : Int} (h : W.heap[g]? = some (.cells #[.slice A0 f0.length c0, .int .i64 f1] 144 (0, 0))) : W.cell? ⟨g, 1, none⟩ = some (.int .i64 f1) := (blk_cell h 1).trans rfl
theorem IsS144.set_1 {w0 W : World} {g : Nat} {f0 : List Int} {f1 : Int} (h : IsS144 w0 W g f0 f1) (x : Int) : IsS144 w0 (W.setCell ⟨g, 1, none⟩ (.int .i64 x)) g f0 x := by
 obtain ⟨A0, c0, hb, hg, hr0⟩ := h
 exact ⟨A0, c0, by simpa using blk_set hb 1 (.int .i64 x), hg, hr0⟩
theorem IsS144.new (w0 W : World) (A0 : Option Addr) (c0 : Nat) (f0 : List Int) (f1 : Int) (hB : Below w0.heap.size w0 W) (hr0 : Kd.C (Kd.int .u8) w0 A0 f0.length f0) : IsS144 w0 (W.alloc (.cells #[.slice A0 f0.length c0, .int .i64 f1] 144)) W.heap.size f0 f1 := ⟨A0, c0, by simpa using heap_alloc_new W _, hB.size, hr0⟩

def spec_reader_pick.j0 : Nat → Int → Bool → List Int → Int → Option (Int × Int)
 | 0, _, _, _, _ => none
 | k + 1, x1, x24, x1000, x1001 => if x24 = true then (some (0, x1001)) else (if (wrap64 (x1001 - 1)) < (x1000.length : Int) then (if 0 ≤ (wrap64 (x1001 - 1)) then (if x1 = 0 then none else (some (Int.tmod (wrap64 (rd x1000 (wrap64 (x1001 - 1)))) x1, x1001))) else none) else (if (x1000.length : Int) = 0 then none else (if 0 ≤ (Int.tmod (wrap64 (x1001 - 1)) (x1000.length : Int)) then (if (Int.tmod (wrap64 (x1001 - 1)) (x1000.length : Int)) < (x1000.length : Int) then (if 0 ≤ (Int.tmod (wrap64 ((wrap64 ((wrap64 (x1001 - 1)) * 7)) + 3)) (x1000.length : Int)) then (if (Int.tmod (wrap64 ((wrap64 ((wrap64 (x1001 - 1)) * 7)) + 3)) (x1000.length : Int)) < (x1000.length : Int) then (if x1 = 0 then none else (some (Int.tmod (Go.bits .xor .i64 (wrap64 ((wrap64 ((wrap64 ((wrap64 ((wrap64 (rd x1000 (Int.tmod (wrap64 (x1001 - 1)) (x1000.length : Int)))) * 131)) + (wrap64 ((wrap64 (rd x1000 (Int.tmod (wrap64 ((wrap64 ((wrap64 (x1001 - 1)) * 7)) + 3)) (x1000.length : Int)))) * 1117)))) + (wrap64 ((wrap64 (x1001 - 1)) * 29)))) + (wrap64 ((wrap64 (Int.tdiv (wrap64 (x1001 - 1)) (x1000.length : Int))) * 53)))) (wrap64 (Int.tdiv (wrap64 ((wrap64 ((wrap64 ((wrap64 ((wrap64 (rd x1000 (Int.tmod (wrap64 (x1001 - 1)) (x1000.length : Int)))) * 131)) + (wrap64 ((wrap64 (rd x1000 (Int.tmod (wrap64 ((wrap64 ((wrap64 (x1001 - 1)) * 7)) + 3)) (x1000.length : Int)))) * 1117)))) + (wrap64 ((wrap64 (x1001 - 1)) * 29)))) + (wrap64 ((wrap64 (Int.tdiv (wrap64 (x1001 - 1)) (x1000.length : Int))) * 53)))) 64))) x1, x1001))) else none) else none) else none) else none)))
def spec_reader_pick.f (k : Nat) (s0_0 : List Int) (s0_1 : Int) (a1 : Int) : Option (Int × Int) := if a1 < 1 then (spec_reader_pick.j0 k a1 true s0_0 (wrap64 (s0_1 + 1))) else (spec_reader_pick.j0 k a1 ((s0_0.length : Int) == 0) s0_0 (wrap64 (s0_1 + 1)))
theorem spec_reader_pick.mono_l : ∀ k, (∀ y0 y1 y2 y3, LeO (spec_reader_pick.j0 k y0 y1 y2 y3) (spec_reader_pick.j0 (k + 1) y0 y1 y2 y3))
 | 0 => fun _ _ _ _ r h => by simp [spec_reader_pick.j0] at h
 | k + 1 => by
  have ih0 := spec_reader_pick.mono_l k
  ·intro y0 y1 y2 y3
   unfold spec_reader_pick.j0
   repeat' (with_reducible exact LeO.refl _)
theorem spec_reader_pick.mono : ∀ a0 a1 a2 k, LeO (spec_reader_pick.f k a0 a1 a2) (spec_reader_pick.f (k + 1) a0 a1 a2) := by
 intro a0 a1 a2 k
 have ih0 := spec_reader_pick.mono_l k
 unfold spec_reader_pick.f
 repeat' first | (with_reducible exact ih0 _ _ _ _) | (with_reducible refine LeO.ite ?_ ?_)
set_option maxHeartbeats 8000000 in
set_option maxRecDepth 100000 in
theorem spec_reader_pick.calls (k : Nat) (g : Nat) (s0_0 : List Int) (s0_1 : Int) (a1 : Int) (r1 : Int) (r2 : Int) (w0 w : World) (hI : IsS144 w0 w g s0_0 s0_1) (hB : Below w0.heap.size w0 w) (h : spec_reader_pick.f k s0_0 s0_1 a1 = some (r1, r2)) :
  Calls Try.prog 127 #[.pointer (some ⟨g, 0, none⟩), .int .i64 a1] w fun e w' => e = .returned (.int .i64 r1) ∧ IsS144 w0 w' g s0_0 r2 ∧ Below w0.heap.size w0 w' ∧ KeepBut w w' g none := by
 have HI0 := Aside0.mk hI
 have HK := Aside0.mk (KeepBut.refl w g none)
 have HL := Aside0.mk hB.size
 clear hI
 have HW0 := Aside0.mk hB.size
 have HB := Aside0.mk hB
 clear hB
 have H : (if a1 < 1 then (spec_reader_pick.j0 k a1 true s0_0 (wrap64 (s0_1 + 1))) else (spec_reader_pick.j0 k a1 ((s0_0.length : Int) == 0) s0_0 (wrap64 (s0_1 + 1)))) = some (r1, r2) := h
 clear h
 have HC3 := Aside0.mk H
 clear H
 obtain ⟨ASz4_0, cSz4_0, HGz4, hgz4, HSz4_0⟩ := HI0.out
 have hcz4_0 := cellS144_0 HGz4
 have hcz4_1 := cellS144_1 HGz4
 have hfz4_1 := blk_frozen HGz4 1
 clear HGz4 hgz4
 go_enter Try.func127, Try.ntmps127
 go_upto_region 2 with (fail)
 repeat (go_quiet (fail); go_upto_region 2 with fail)
 go_cut [24] (fun v24 wc => ∃ (kq : Nat) (x24_2 : Bool), v24 = .bool x24_2 ∧ Aside0 (spec_reader_pick.j0 kq a1 x24_2 s0_0 (wrap64 (s0_1 + 1)) = some (r1, r2)) ∧ Aside0 (kq ≤ k) ∧ Aside0 (IsS144 w0 wc g s0_0 (wrap64 (s0_1 + 1))) ∧ Aside0 (KeepBut w wc g none) ∧ Aside0 (Below w0.heap.size w0 wc))
 case first =>
  have H := HC3.out
  clear HC3
  by_cases c5 : a1 < 1
  ·rw [if_pos c5] at H
   have c5b0 : decide (a1 < 1) = true := decide_eq_true c5
   clear c5
   (skip)
   have H' := Aside0.mk H
   clear H
   go_wp2
   repeat (go_quiet (fail); try go_wp2)
   go_meet
   case rel => exact ⟨_, (true), (by rfl), H', ⟨by omega⟩, ⟨by repeat (with_reducible first | exact HI0.out | apply IsS144.set_1)⟩, ⟨by repeat (with_reducible first | exact HK.out | apply KeepBut.set_)⟩, ⟨by repeat ((with_reducible first | exact HB.out | refine below_set ?_ (IsS144.ge HI0.out)))⟩⟩
  rw [if_neg c5] at H
  have c5b0 : decide (a1 < 1) = false := decide_eq_false c5
  clear c5
  (skip)
  have H' := Aside0.mk H
  clear H
  obtain ⟨ASz6_0, cSz6_0, HGz6, hgz6, HSz6_0⟩ := HI0.out
  clear HGz6 hgz6
  go_wp2
  repeat (go_quiet (fail); try go_wp2)
  go_meet
  case rel => exact ⟨_, (((s0_0.length : Int) == 0)), (by rfl), H', ⟨by omega⟩, ⟨by repeat (with_reducible first | exact HI0.out | apply IsS144.set_1)⟩, ⟨by repeat (with_reducible first | exact HK.out | apply KeepBut.set_)⟩, ⟨by repeat ((with_reducible first | exact HB.out | refine below_set ?_ (IsS144.ge HI0.out)))⟩⟩
 case rest =>
  clear HC3
  obtain ⟨kq, x24_2, rfl, HA, HJ2, HI0, HK, HB⟩ := hcut
  cases kq with
  | zero => exact absurd HA.out (by simp [spec_reader_pick.j0])
  | succ kj2 =>
   have H := HA.out
   clear HA
   simp only [spec_reader_pick.j0] at H
   by_cases c7 : x24_2 = true
   ·subst c7
    have H1 : (some (0, (wrap64 (s0_1 + 1)))) = some (r1, r2) := by rw [if_pos rfl] at H; exact H
    clear H
    have H := H1
    clear H1
    simp only [Option.some.injEq, Prod.mk.injEq] at H
    obtain ⟨rfl, rfl⟩ := H
    go_wp2
    repeat (go_quiet (fail); try go_wp2)
    go_ret
    exact ⟨by rfl, by exact HI0.out, by exact HB.out, by exact HK.out⟩
   replace c7 := Bool.eq_false_iff.mpr c7
   subst c7
   have H1 : (if (wrap64 ((wrap64 (s0_1 + 1)) - 1)) < (s0_0.length : Int) then (if 0 ≤ (wrap64 ((wrap64 (s0_1 + 1)) - 1)) then (if a1 = 0 then none else (some (Int.tmod (wrap64 (rd s0_0 (wrap64 ((wrap64 (s0_1 + 1)) - 1)))) a1, (wrap64 (s0_1 + 1))))) else none) else (if (s0_0.length : Int) = 0 then none else (if 0 ≤ (Int.tmod (wrap64 ((wrap64 (s0_1 + 1)) - 1)) (s0_0.length : Int)) then (if (Int.tmod (wrap64 ((wrap64 (s0_1 + 1)) - 1)) (s0_0.length : Int)) < (s0_0.length : Int) then (if 0 ≤ (Int.tmod (wrap64 ((wrap64 ((wrap64 ((wrap64 (s0_1 + 1)) - 1)) * 7)) + 3)) (s0_0.length : Int)) then (if (Int.tmod (wrap64 ((wrap64 ((wrap64 ((wrap64 (s0_1 + 1)) - 1)) * 7)) + 3)) (s0_0.length : Int)) < (s0_0.length : Int) then (if a1 = 0 then none else (some (Int.tmod (Go.bits .xor .i64 (wrap64 ((wrap64 ((wrap64 ((wrap64 ((wrap64 (rd s0_0 (Int.tmod (wrap64 ((wrap64 (s0_1 + 1)) - 1)) (s0_0.length : Int)))) * 131)) + (wrap64 ((wrap64 (rd s0_0 (Int.tmod (wrap64 ((wrap64 ((wrap64 ((wrap64 (s0_1 + 1)) - 1)) * 7)) + 3)) (s0_0.length : Int)))) * 1117)))) + (wrap64 ((wrap64 ((wrap64 (s0_1 + 1)) - 1)) * 29)))) + (wrap64 ((wrap64 (Int.tdiv (wrap64 ((wrap64 (s0_1 + 1)) - 1)) (s0_0.length : Int))) * 53)))) (wrap64 (Int.tdiv (wrap64 ((wrap64 ((wrap64 ((wrap64 ((wrap64 (rd s0_0 (Int.tmod (wrap64 ((wrap64 (s0_1 + 1)) - 1)) (s0_0.length : Int)))) * 131)) + (wrap64 ((wrap64 (rd s0_0 (Int.tmod (wrap64 ((wrap64 ((wrap64 ((wrap64 (s0_1 + 1)) - 1)) * 7)) + 3)) (s0_0.length : Int)))) * 1117)))) + (wrap64 ((wrap64 ((wrap64 (s0_1 + 1)) - 1)) * 29)))) + (wrap64 ((wrap64 (Int.tdiv (wrap64 ((wrap64 (s0_1 + 1)) - 1)) (s0_0.length : Int))) * 53)))) 64))) a1, (wrap64 (s0_1 + 1))))) else none) else none) else none) else none))) = some (r1, r2) := by rw [if_neg (show ¬ (false = true) by decide)] at H; exact H
   clear H
   have H := H1
   clear H1
   by_cases c8 : (wrap64 ((wrap64 (s0_1 + 1)) - 1)) < (s0_0.length : Int)
   ·rw [if_pos c8] at H
    have c8b0 : decide ((wrap64 ((wrap64 (s0_1 + 1)) - 1)) < (s0_0.length : Int)) = true := decide_eq_true c8
    clear c8
    obtain ⟨ji9, hji9⟩ : ∃ j_ : Int, (wrap64 ((wrap64 (s0_1 + 1)) - 1)) = j_ := ⟨_, rfl⟩
    replace H : (if 0 ≤ ji9 then (if a1 = 0 then none else (some (Int.tmod (wrap64 (rd s0_0 ji9)) a1, (wrap64 (s0_1 + 1))))) else none) = some (r1, r2) := by (rw [hji9] at H; exact H)
    (try rw [hji9] at c8b0)
    have hji9w : (IntKind.i64.wrap ((wrap64 (s0_1 + 1)) - 1)) = ji9 := (i64_w _).trans hji9
    by_cases c10 : 0 ≤ (ji9)
    ·rw [if_pos c10] at H
     have c10b0 : decide (0 ≤ ji9) = true := decide_eq_true c10
     clear c10
     by_cases c11 : a1 = 0
     ·rw [if_pos c11] at H
      exact absurd H (by simp)
     rw [if_neg c11] at H
     have c11b0 : (a1 == 0) = false := beq_eq_false_iff_ne.mpr c11
     have c11b1 : (a1 != 0) = true := bne_iff_ne.mpr c11
     simp only [Option.some.injEq, Prod.mk.injEq] at H
     obtain ⟨rfl, rfl⟩ := H
     obtain ⟨ASz12_0, cSz12_0, HGz12, hgz12, HSz12_0⟩ := HI0.out
     have hcz12_0 := cellS144_0 HGz12
     have hcz12_1 := cellS144_1 HGz12
     clear HGz12 hgz12
     have p128001 : 0 ≤ (ji9 : Int) := of_decide_eq_true (by (with_reducible assumption))
     have q128001 : ji9 < (s0_0.length : Int) := of_decide_eq_true (by (with_reducible assumption))
     obtain ⟨ad128001, e128001, hx128001_0⟩ := Kd.at_int HSz12_0 ji9 p128001 q128001
     cases e128001
     replace hx128001_0 := pw_cell_below HB.out hx128001_0
     replace p128001 := eq_true p128001
     replace q128001 := eq_true q128001
     go_wp2
     repeat (go_quiet (fail); try go_wp2)
     go_ret
     exact ⟨by rfl, by exact HI0.out, by exact HB.out, by exact HK.out⟩
    rw [if_neg c10] at H
    exact absurd H (by simp)
   rw [if_neg c8] at H
   have c8b0 : decide ((wrap64 ((wrap64 (s0_1 + 1)) - 1)) < (s0_0.length : Int)) = false := decide_eq_false c8
   clear c8
   by_cases c13 : (s0_0.length : Int) = 0
   ·rw [if_pos c13] at H
    exact absurd H (by simp)
   rw [if_neg c13] at H
   have c13b0 : ((s0_0.length : Int) == 0) = false := beq_eq_false_iff_ne.mpr c13
   have c13b1 : ((s0_0.length : Int) != 0) = true := bne_iff_ne.mpr c13
   have c13b2 : ¬ (s0_0 = []) := fun h_ => c13 (by rw [h_]; rfl)
   obtain ⟨ji14, hji14⟩ : ∃ j_ : Int, (Int.tmod (wrap64 ((wrap64 (s0_1 + 1)) - 1)) (s0_0.length : Int)) = j_ := ⟨_, rfl⟩
   replace H : (if 0 ≤ ji14 then (if ji14 < (s0_0.length : Int) then (if 0 ≤ (Int.tmod (wrap64 ((wrap64 ((wrap64 ((wrap64 (s0_1 + 1)) - 1)) * 7)) + 3)) (s0_0.length : Int)) then (if (Int.tmod (wrap64 ((wrap64 ((wrap64 ((wrap64 (s0_1 + 1)) - 1)) * 7)) + 3)) (s0_0.length : Int)) < (s0_0.length : Int) then (if a1 = 0 then none else (some (Int.tmod (Go.bits .xor .i64 (wrap64 ((wrap64 ((wrap64 ((wrap64 ((wrap64 (rd s0_0 ji14)) * 131)) + (wrap64 ((wrap64 (rd s0_0 (Int.tmod (wrap64 ((wrap64 ((wrap64 ((wrap64 (s0_1 + 1)) - 1)) * 7)) + 3)) (s0_0.length : Int)))) * 1117)))) + (wrap64 ((wrap64 ((wrap64 (s0_1 + 1)) - 1)) * 29)))) + (wrap64 ((wrap64 (Int.tdiv (wrap64 ((wrap64 (s0_1 + 1)) - 1)) (s0_0.length : Int))) * 53)))) (wrap64 (Int.tdiv (wrap64 ((wrap64 ((wrap64 ((wrap64 ((wrap64 (rd s0_0 ji14)) * 131)) + (wrap64 ((wrap64 (rd s0_0 (Int.tmod (wrap64 ((wrap64 ((wrap64 ((wrap64 (s0_1 + 1)) - 1)) * 7)) + 3)) (s0_0.length : Int)))) * 1117)))) + (wrap64 ((wrap64 ((wrap64 (s0_1 + 1)) - 1)) * 29)))) + (wrap64 ((wrap64 (Int.tdiv (wrap64 ((wrap64 (s0_1 + 1)) - 1)) (s0_0.length : Int))) * 53)))) 64))) a1, (wrap64 (s0_1 + 1))))) else none) else none) else none) else none) = some (r1, r2) := by (rw [hji14] at H; exact H)
   by_cases c15 : 0 ≤ (ji14)
   ·rw [if_pos c15] at H
    have c15b0 : decide (0 ≤ ji14) = true := decide_eq_true c15
    clear c15
    by_cases c16 : ji14 < (s0_0.length : Int)
    ·rw [if_pos c16] at H
     have c16b0 : decide (ji14 < (s0_0.length : Int)) = true := decide_eq_true c16
     clear c16
     obtain ⟨ji17, hji17⟩ : ∃ j_ : Int, (Int.tmod (wrap64 ((wrap64 ((wrap64 ((wrap64 (s0_1 + 1)) - 1)) * 7)) + 3)) (s0_0.length : Int)) = j_ := ⟨_, rfl⟩
     replace H : (if 0 ≤ ji17 then (if ji17 < (s0_0.length : Int) then (if a1 = 0 then none else (some (Int.tmod (Go.bits .xor .i64 (wrap64 ((wrap64 ((wrap64 ((wrap64 ((wrap64 (rd s0_0 ji14)) * 131)) + (wrap64 ((wrap64 (rd s0_0 ji17)) * 1117)))) + (wrap64 ((wrap64 ((wrap64 (s0_1 + 1)) - 1)) * 29)))) + (wrap64 ((wrap64 (Int.tdiv (wrap64 ((wrap64 (s0_1 + 1)) - 1)) (s0_0.length : Int))) * 53)))) (wrap64 (Int.tdiv (wrap64 ((wrap64 ((wrap64 ((wrap64 ((wrap64 (rd s0_0 ji14)) * 131)) + (wrap64 ((wrap64 (rd s0_0 ji17)) * 1117)))) + (wrap64 ((wrap64 ((wrap64 (s0_1 + 1)) - 1)) * 29)))) + (wrap64 ((wrap64 (Int.tdiv (wrap64 ((wrap64 (s0_1 + 1)) - 1)) (s0_0.length : Int))) * 53)))) 64))) a1, (wrap64 (s0_1 + 1))))) else none) else none) = some (r1, r2) := by (rw [hji17] at H; exact H)
     by_cases c18 : 0 ≤ (ji17)
     ·rw [if_pos c18] at H
      have c18b0 : decide (0 ≤ ji17) = true := decide_eq_true c18
      clear c18
      by_cases c19 : ji17 < (s0_0.length : Int)
      ·rw [if_pos c19] at H
       have c19b0 : decide (ji17 < (s0_0.length : Int)) = true := decide_eq_true c19
       clear c19
       by_cases c20 : a1 = 0
       ·rw [if_pos c20] at H
        exact absurd H (by simp)
       rw [if_neg c20] at H
       have c20b0 : (a1 == 0) = false := beq_eq_false_iff_ne.mpr c20
       have c20b1 : (a1 != 0) = true := bne_iff_ne.mpr c20
       simp only [Option.some.injEq, Prod.mk.injEq] at H
       obtain ⟨rfl, rfl⟩ := H
       obtain ⟨ASz21_0, cSz21_0, HGz21, hgz21, HSz21_0⟩ := HI0.out
       have hcz21_0 := cellS144_0 HGz21
       have hcz21_1 := cellS144_1 HGz21
       clear HGz21 hgz21
       have p128002 : 0 ≤ (ji14 : Int) := of_decide_eq_true (by (with_reducible assumption))
       have q128002 : ji14 < (s0_0.length : Int) := of_decide_eq_true (by (with_reducible assumption))
       obtain ⟨ad128002, e128002, hx128002_0⟩ := Kd.at_int HSz21_0 ji14 p128002 q128002
       cases e128002
       replace hx128002_0 := pw_cell_below HB.out hx128002_0
       replace p128002 := eq_true p128002
       replace q128002 := eq_true q128002
       have p128003 : 0 ≤ (ji17 : Int) := of_decide_eq_true (by (with_reducible assumption))
       have q128003 : ji17 < (s0_0.length : Int) := of_decide_eq_true (by (with_reducible assumption))
       obtain ⟨ad128003, e128003, hx128003_0⟩ := Kd.at_int HSz21_0 ji17 p128003 q128003
       obtain rfl : ad128002 = ad128003 := (by injection e128003)
       replace hx128003_0 := pw_cell_below HB.out hx128003_0
       replace p128003 := eq_true p128003
       replace q128003 := eq_true q128003
       go_wp2
       repeat (go_quiet (fail); try go_wp2)
       go_ret
       exact ⟨by rfl, by repeat (with_reducible first | exact HI0.out | apply IsS144.drewN), by repeat (with_reducible first | exact HB.out | apply pw_below_drewN), by repeat (with_reducible first | exact HK.out | apply keep_drewN)⟩
      rw [if_neg c19] at H
      exact absurd H (by simp)
     rw [if_neg c18] at H
     exact absurd H (by simp)
    rw [if_neg c16] at H
    exact absurd H (by simp)
   rw [if_neg c15] at H
   exact absurd H (by simp)

end Go.Proofs.Ytnofkbbcbpjhfaa.Q

namespace Go.Proofs.Ytnofkbbcbpjhfaa.Q
open Go.RowKit Go.Proofs.YtnofkbbcbpjhfaaW.PrintWords Go.Proofs.YtnofkbbcbpjhfaaW.PrintLast Go.Proofs.YtnofkbbcbpjhfaaW.PrintMore
open Go.Proofs.YtnofkbbcbpjhfaaW.PrintWords.Aside0 (mk)
attribute [local go_sem] max2_int min2_int max_two min_two max_three min_three max_four min_four
set_option linter.unusedVariables false
set_option linter.unusedSimpArgs false
def spec_newReader.f (l0 : List Int) : Option (List Int × Int) := if (l0.length : Int) > 2000 then (if 2000 ≤ (l0.length : Int) then (some (l0.take 2000, 0)) else (none)) else (some (l0, 0))
set_option maxHeartbeats 8000000 in
set_option maxRecDepth 100000 in
theorem spec_newReader.calls (A0 : Option Addr) (c0 : Nat) (l0 : List Int) (r1 : List Int) (r2 : Int) (w0 w : World) (hB : Below w0.heap.size w0 w) (hr0 : Kd.C (Kd.int .u8) w0 A0 l0.length l0) (hc0 : l0.length ≤ c0) (h : spec_newReader.f l0 = some (r1, r2)) :
  Calls Try.prog 86 #[.slice A0 l0.length c0] w fun e w' => ∃ g_ : Nat, e = .returned (.pointer (some ⟨g_, 0, none⟩)) ∧ IsS144 w0 w' g_ r1 r2 ∧ Below w0.heap.size w0 w' ∧ Below w.heap.size w w' := by
 have hu144 := Try.underlying144
 have HR0 := mk hr0
 have HC0 := mk hc0
 clear hr0 hc0
 have HBW := mk (Below.refl w.heap.size w)
 have HW0 := mk hB.size
 have HB := mk hB
 clear hB
 have H : (if (l0.length : Int) > 2000 then (if 2000 ≤ (l0.length : Int) then (some (l0.take 2000, 0)) else (none)) else (some (l0, 0))) = some (r1, r2) := h
 clear h
 by_cases c2 : (l0.length : Int) > 2000
 ·rw [if_pos c2] at H
  have c2b0 : decide (2000 < (l0.length : Int)) = true := decide_eq_true c2
  have c2b1 : decide (2000 < l0.length) = true := decide_eq_true (by omega)
  clear c2
  by_cases c3 : 2000 ≤ (l0.length : Int)
  ·rw [if_pos c3] at H
   have c3b0 := eq_true c3
   have c3b1 : decide (2000 ≤ (l0.length : Int)) = true := decide_eq_true c3
   clear c3
   simp only [Option.some.injEq, Prod.mk.injEq] at H
   obtain ⟨rfl, rfl⟩ := H
   obtain ⟨i04, hi04, _, hsz4, _⟩ := info_parts info5
   obtain ⟨hcut4, hA4, hC4⟩ := print_take_of (P := Try.prog) (Value.int .u8) 0 31 5 .i64 Try.underlying31 hi04 hsz4 A0 c0 l0 2000 (by omega) (of_decide_eq_true (by first | (with_reducible assumption) | assumption)) HC0.out
   have HR87001 := mk (Kd.C_of_reads (h1 := fun _ => rfl) (hA4 _ (Kd.reads_of_C HR0.out)))
   have HC87001 := mk hC4
   clear hA4 hC4 hi04 hsz4
   go_enter Try.func86, Try.ntmps86
   go_wp2_with (first | ((with_reducible refine gate_dst (N := 10) rfl ?_); refine box_event ?hg (N := 10) ?hd (cs := #[.slice A0 (l0.take 2000).length c0, .int .i64 0]) (t := 144) ?hr ?_; (case hd => rfl); (case hg => rfl); (case hr => first | (go_simp; done) | (go_simp; rfl)); intro gb87002 hg w5 hbox hb; have n0_ := mk (below_step HBW.out hb); have n1_ := mk (below_step (by repeat (first | (with_reducible first | exact HB.out | apply below_alloc | apply pw_below_drewN | apply below_drew1) | exact HB.out)) hb); have n2_ := mk (hbox); have n3_ := mk ((by rw [hg]; exact (below_size (by repeat (first | (with_reducible first | exact HBW.out | apply below_alloc | apply pw_below_drewN | apply below_drew1) | exact HBW.out))) : w.heap.size ≤ gb87002)); have n4_ := mk ((Nat.le_trans HW0.out (by rw [hg]; exact (below_size (by repeat (first | (with_reducible first | exact HBW.out | apply below_alloc | apply pw_below_drewN | apply below_drew1) | exact HBW.out))) : w.heap.size ≤ gb87002) : w0.heap.size ≤ gb87002)); clear HBW; clear HB; have HBW := n0_; have HB := n1_; have BK87002 := n2_; have GW87002 := n3_; have GE87002 := n4_; clear n0_ n1_ n2_ n3_ n4_; clear hb hbox hg))
   go_ret
   exact ⟨_, rfl, (show IsS144 w0 _ gb87002 (l0.take 2000) 0 from ⟨_, _, by (with_reducible repeat (first | refine blk_drewN ?_ _ | refine blk_drew ?_ | refine blk_alloc ?_ _)); exact BK87002.out, GE87002.out, HR87001.out⟩), by repeat (first | (with_reducible first | exact HB.out | apply below_alloc | apply pw_below_drewN | apply below_drew1 | refine below_set ?_ GE87002.out) | exact HB.out), by repeat (first | (with_reducible first | exact HBW.out | apply below_alloc | apply pw_below_drewN | apply below_drew1 | refine below_set ?_ GW87002.out) | exact HBW.out)⟩
  ·rw [if_neg c3] at H
   exact absurd H (by simp)
 ·rw [if_neg c2] at H
  have c2b0 : decide (2000 < (l0.length : Int)) = false := decide_eq_false c2
  have c2b1 : decide (2000 < l0.length) = false := decide_eq_false (by omega)
  clear c2
  simp only [Option.some.injEq, Prod.mk.injEq] at H
  obtain ⟨rfl, rfl⟩ := H
  go_enter Try.func86, Try.ntmps86
  go_wp2_with (first | ((with_reducible refine gate_dst (N := 10) rfl ?_); refine box_event ?hg (N := 10) ?hd (cs := #[.slice A0 l0.length c0, .int .i64 0]) (t := 144) ?hr ?_; (case hd => rfl); (case hg => rfl); (case hr => first | (go_simp; done) | (go_simp; rfl)); intro gb87003 hg w6 hbox hb; have n0_ := mk (below_step HBW.out hb); have n1_ := mk (below_step (by repeat (first | (with_reducible first | exact HB.out | apply below_alloc | apply pw_below_drewN | apply below_drew1) | exact HB.out)) hb); have n2_ := mk (hbox); have n3_ := mk ((by rw [hg]; exact (below_size (by repeat (first | (with_reducible first | exact HBW.out | apply below_alloc | apply pw_below_drewN | apply below_drew1) | exact HBW.out))) : w.heap.size ≤ gb87003)); have n4_ := mk ((Nat.le_trans HW0.out (by rw [hg]; exact (below_size (by repeat (first | (with_reducible first | exact HBW.out | apply below_alloc | apply pw_below_drewN | apply below_drew1) | exact HBW.out))) : w.heap.size ≤ gb87003) : w0.heap.size ≤ gb87003)); clear HBW; clear HB; have HBW := n0_; have HB := n1_; have BK87003 := n2_; have GW87003 := n3_; have GE87003 := n4_; clear n0_ n1_ n2_ n3_ n4_; clear hb hbox hg))
  go_ret
  exact ⟨_, rfl, (show IsS144 w0 _ gb87003 l0 0 from ⟨_, _, by (with_reducible repeat (first | refine blk_drewN ?_ _ | refine blk_drew ?_ | refine blk_alloc ?_ _)); exact BK87003.out, GE87003.out, HR0.out⟩), by repeat (first | (with_reducible first | exact HB.out | apply below_alloc | apply pw_below_drewN | apply below_drew1 | refine below_set ?_ GE87003.out) | exact HB.out), by repeat (first | (with_reducible first | exact HBW.out | apply below_alloc | apply pw_below_drewN | apply below_drew1 | refine below_set ?_ GW87003.out) | exact HBW.out)⟩

end Go.Proofs.Ytnofkbbcbpjhfaa.Q

namespace Go.Proofs.Ytnofkbbcbpjhfaa.Q
open Go.RowKit Go.Proofs.YtnofkbbcbpjhfaaW.PrintWords Go.Proofs.YtnofkbbcbpjhfaaW.PrintLast Go.Proofs.YtnofkbbcbpjhfaaW.PrintMore
attribute [local go_sem] max2_int min2_int max_two min_two max_three min_three max_four min_four
set_option linter.unusedVariables false
set_option linter.unusedSimpArgs false
def spec_reader_one.f (k : Nat) (s0_0 : List Int) (s0_1 : Int) (l1 : List Int) : Option (Int × Int) := (spec_reader_pick.f k s0_0 s0_1 (l1.length : Int)).bind fun bt148001 => (if 0 ≤ bt148001.1 then (if bt148001.1 < (l1.length : Int) then (some (rd l1 bt148001.1, bt148001.2)) else (none)) else (none))
theorem spec_reader_one.mono : ∀ a0 a1 a2 k, LeO (spec_reader_one.f k a0 a1 a2) (spec_reader_one.f (k + 1) a0 a1 a2) := by
 intro a0 a1 a2 k
 unfold spec_reader_one.f
 repeat' first
   | (with_reducible exact spec_reader_pick.mono _ _ _ _)
   | (with_reducible exact LeO.refl _)
   | (with_reducible exact LeO.none _)
   | (with_reducible refine LeO.ite ?_ ?_)
   | (with_reducible refine LeO.bind ?_ (fun _ => ?_))
   | exact spec_reader_pick.mono _ _ _ _
   | exact LeO.none _
   | refine LeO.ite ?_ ?_
   | refine LeO.bind ?_ (fun _ => ?_)
set_option maxHeartbeats 8000000 in
set_option maxRecDepth 100000 in
theorem spec_reader_one.calls (k : Nat) (g : Nat) (s0_0 : List Int) (s0_1 : Int) (A1 : Option Addr) (c1 : Nat) (l1 : List Int) (r1 : Int) (r2 : Int) (w0 w : World) (hI : IsS144 w0 w g s0_0 s0_1) (hB : Below w0.heap.size w0 w) (hr1 : Kd.C (Kd.int .i64) w A1 l1.length l1) (hc1 : l1.length ≤ c1) (hf1 : ∀ ad, A1 = some ad → 0 < l1.length → ad.block ≠ g) (h : spec_reader_one.f k s0_0 s0_1 l1 = some (r1, r2)) :
  Calls Try.prog 147 #[.pointer (some ⟨g, 0, none⟩), .slice A1 l1.length c1] w fun e w' => e = .returned (.int .i64 r1) ∧ IsS144 w0 w' g s0_0 r2 ∧ Below w0.heap.size w0 w' ∧ KeepBut w w' g none := by
 have HR1 := Aside0.mk hr1
 have HC1 := Aside0.mk hc1
 clear hr1 hc1
 have HI0 := Aside0.mk hI
 have HK := Aside0.mk (KeepBut.refl w g none)
 have HL := Aside0.mk hB.size
 clear hI
 have HW0 := Aside0.mk hB.size
 have HB := Aside0.mk hB
 clear hB
 have H : ((spec_reader_pick.f k s0_0 s0_1 (l1.length : Int)).bind fun bt148001 => (if 0 ≤ bt148001.1 then (if bt148001.1 < (l1.length : Int) then (some (rd l1 bt148001.1, bt148001.2)) else (none)) else (none))) = some (r1, r2) := h
 clear h
 replace H := Option.bind_eq_some_iff.mp H
 obtain ⟨⟨t148001, t148002⟩, A30, H⟩ := H
 replace H : (if 0 ≤ t148001 then (if t148001 < (l1.length : Int) then (some (rd l1 t148001, t148002)) else (none)) else (none)) = some (r1, r2) := H
 have A3 := Aside0.mk A30
 clear A30
 by_cases c4 : 0 ≤ t148001
 ·rw [if_pos c4] at H
  have c4b0 : decide (0 ≤ t148001) = true := decide_eq_true c4
  clear c4
  by_cases c5 : t148001 < (l1.length : Int)
  ·rw [if_pos c5] at H
   have c5b0 : decide (t148001 < (l1.length : Int)) = true := decide_eq_true c5
   clear c5
   simp only [Option.some.injEq, Prod.mk.injEq] at H
   obtain ⟨rfl, rfl⟩ := H
   go_enter Try.func147, Try.ntmps147
   go_wp2_with (first | ((with_reducible refine gate_callee (f := 127) rfl ?_); refine goesL_ (some 9) rfl rfl Try.func127 (by kernel_rfl) rfl #[.pointer (some ⟨g, 0, none⟩), .int .i64 (l1.length : Int)] rfl (by (try simp only [List.map_toArray, List.map_cons, List.map_nil]); first | done | rfl | (simp only [List.length_drop, List.length_take]; rfl)) ?_; (with_reducible refine (spec_reader_pick.calls k g s0_0 s0_1 (l1.length : Int) t148001 t148002 w0 _ ?side1 ?side2 A3.out).mono ?_); (case side1 => repeat (first | (with_reducible first | exact HI0.out | apply IsS144.alloc | apply IsS144.drewN | apply IsS144.drew | apply IsS144.set_1) | exact HI0.out)); (case side2 => repeat (first | (with_reducible first | exact HB.out | apply below_alloc | apply pw_below_drewN | apply below_drew1 | refine below_set ?_ (IsS144.ge HI0.out)) | exact HB.out)); rintro e w6 ⟨rfl, hi, hb, hk⟩; refine ⟨_, rfl, ?_⟩; have n0_ := Aside0.mk (KeepBut.trans (by repeat (first | (with_reducible first | exact HK.out | apply KeepBut.set_ | apply keep_drewN | apply keep_drew | apply keep_alloc) | exact HK.out)) hk (.inl rfl)); have n1_ := Aside0.mk (hb); have n2_ := Aside0.mk (hi); clear HK; clear HB; clear HI0; have HK := n0_; have HB := n1_; have HI0 := n2_; clear n0_ n1_ n2_; (try clear hb); (try clear hb2); (try clear hk); (try clear hi); have p148003 : 0 ≤ (t148001 : Int) := of_decide_eq_true (by first | (with_reducible assumption) | assumption); have q148003 : t148001 < (l1.length : Int) := of_decide_eq_true (by first | (with_reducible assumption) | assumption); obtain ⟨ad148003, e148003, hx148003_0⟩ := Kd.at_int HR1.out t148001 p148003 q148003; cases e148003; replace hx148003_0 := keep_cell HK.out hx148003_0 (by first | (rw [add_block]; exact hf1 _ rfl (by omega)) | exact hf1 _ rfl (by omega) | exact hf1 ad148003 rfl (by omega)); replace p148003 := eq_true p148003; replace q148003 := eq_true q148003))
   go_ret
   exact ⟨by first | rfl | (simp [errW_none, errW_some] <;> rfl) | (simp [*, errW_none, errW_some] <;> rfl), by repeat (first | (with_reducible first | exact HI0.out | apply IsS144.alloc | apply IsS144.drewN | apply IsS144.drew | apply IsS144.set_1) | exact HI0.out), by repeat (first | (with_reducible first | exact HB.out | apply below_alloc | apply pw_below_drewN | apply below_drew1 | refine below_set ?_ (IsS144.ge HI0.out)) | exact HB.out), by repeat (first | (with_reducible first | exact HK.out | apply KeepBut.set_ | apply keep_drewN | apply keep_drew | apply keep_alloc) | exact HK.out)⟩
  ·rw [if_neg c5] at H
   exact absurd H (by simp)
 ·rw [if_neg c4] at H
  exact absurd H (by simp)

end Go.Proofs.Ytnofkbbcbpjhfaa.Q
