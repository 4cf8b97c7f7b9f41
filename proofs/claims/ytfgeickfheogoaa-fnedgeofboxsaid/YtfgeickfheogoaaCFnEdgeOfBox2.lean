/- A part of the proof that the statement FnEdgeOfBoxSaid holds, under no condition of its own: Edges of boxes are frames: the law FnEdgeOfBox over lists of numbers alone. -/
import Derived.Test.YtfgeickfheogoaaCFnEdgeOfBox1
import Derived.Test.YtfgeickfheogoaaRows
import Derived.JoinedOf
import Derived.KernelRfl
import Derived.WalkKit
import Derived.ProofKit
import Derived.OpenShut
import Derived.ShutString
import Derived.ChangeOld
import Derived.Below
import Derived.SizedLaws
import Derived.Test.YtfgeickfheogoaaWSized
namespace Go.Proofs.Ytfgeickfheogoaa.Q
open Go.RowKit Go.Proofs.YtfgeickfheogoaaW.PrintWords Go.Proofs.YtfgeickfheogoaaW.PrintLast Go.Proofs.YtfgeickfheogoaaW.PrintMore
attribute [local go_sem] max2_int min2_int max_two min_two max_three min_three max_four min_four
set_option linter.unusedVariables false
set_option linter.unusedSimpArgs false
/-! ### spec_anyBox: function 69 -/
def spec_anyBox.f (k : Nat) (s0_0 : List Int) (s0_1 : Int) : Option (Int × Int × Int × Int × Int) := (spec_reader_one.f k s0_0 s0_1 (([0, 1, 2, (-1), 0, 4] : List Int))).bind fun bt70005 => ((spec_reader_one.f k s0_0 bt70005.2 (([0, 1, 0, 2, (-1)] : List Int))).bind fun bt70010 => ((spec_reader_one.f k s0_0 bt70010.2 (([1, 2, 3, 1, 0, 16] : List Int))).bind fun bt70015 => ((spec_reader_one.f k s0_0 bt70015.2 (([1, 2, 1, 3, 0] : List Int))).bind fun bt70020 => (some (bt70005.1, bt70010.1, bt70015.1, bt70020.1, bt70020.2)))))
theorem spec_anyBox.mono : ∀ a0 a1 k, LeO (spec_anyBox.f k a0 a1) (spec_anyBox.f (k + 1) a0 a1) := by
  intro a0 a1 k
  unfold spec_anyBox.f
  repeat' first
      | (with_reducible exact spec_reader_one.mono _ _ _ _)
      | (with_reducible exact LeO.refl _)
      | (with_reducible exact LeO.none _)
      | (with_reducible refine LeO.ite ?_ ?_)
      | (with_reducible refine LeO.bind ?_ (fun _ => ?_))
      | exact spec_reader_one.mono _ _ _ _
      | exact LeO.none _
      | refine LeO.ite ?_ ?_
      | refine LeO.bind ?_ (fun _ => ?_)
set_option maxHeartbeats 8000000 in
set_option maxRecDepth 100000 in
theorem spec_anyBox.calls (k : Nat) (g : Nat) (s0_0 : List Int) (s0_1 : Int) (r1 : Int) (r2 : Int) (r3 : Int) (r4 : Int) (r5 : Int) (w0 w : World) (hI : IsS88 w0 w g s0_0 s0_1) (hB : Below w0.heap.size w0 w) (h : spec_anyBox.f k s0_0 s0_1 = some (r1, r2, r3, r4, r5)) :
    Calls Try.prog 69 #[.pointer (some ⟨g, 0, none⟩)] w fun e w' => e = .returned (.agg #[.int .i64 r1, .int .i64 r2, .int .i64 r3, .int .i64 r4]) ∧ IsS88 w0 w' g s0_0 r5 ∧ Below w0.heap.size w0 w' ∧ KeepBut w w' g none := by
  have hu36 := Try.underlying36
  have HI0 := Aside0.mk hI
  have HK := Aside0.mk (KeepBut.refl w g none)
  have HL := Aside0.mk hB.size
  clear hI
  have HW0 := Aside0.mk hB.size
  have HB := Aside0.mk hB
  clear hB
  have H : ((spec_reader_one.f k s0_0 s0_1 (([0, 1, 2, (-1), 0, 4] : List Int))).bind fun bt70005 => ((spec_reader_one.f k s0_0 bt70005.2 (([0, 1, 0, 2, (-1)] : List Int))).bind fun bt70010 => ((spec_reader_one.f k s0_0 bt70010.2 (([1, 2, 3, 1, 0, 16] : List Int))).bind fun bt70015 => ((spec_reader_one.f k s0_0 bt70015.2 (([1, 2, 1, 3, 0] : List Int))).bind fun bt70020 => (some (bt70005.1, bt70010.1, bt70015.1, bt70020.1, bt70020.2)))))) = some (r1, r2, r3, r4, r5) := h
  clear h
  obtain ⟨y70002, hy70002⟩ : ∃ y_ : List Int, y_ = (([0, 1, 2, (-1), 0, 4] : List Int)) := ⟨_, rfl⟩
  replace H : ((spec_reader_one.f k s0_0 s0_1 y70002).bind fun bt70005 => ((spec_reader_one.f k s0_0 bt70005.2 (([0, 1, 0, 2, (-1)] : List Int))).bind fun bt70010 => ((spec_reader_one.f k s0_0 bt70010.2 (([1, 2, 3, 1, 0, 16] : List Int))).bind fun bt70015 => ((spec_reader_one.f k s0_0 bt70015.2 (([1, 2, 1, 3, 0] : List Int))).bind fun bt70020 => (some (bt70005.1, bt70010.1, bt70015.1, bt70020.1, bt70020.2)))))) = some (r1, r2, r3, r4, r5) := by first | (rw [hy70002]; with_reducible exact H) | (have H2_ := (Option.bind_some _ _).symm.trans H; rw [hy70002]; with_reducible exact H2_) | (have H2_ := (Option.bind_some _ _).symm.trans H; with_reducible exact H2_) | with_reducible exact H | (rw [hy70002]; exact H) | exact H
  have Ny70002 := Aside0.mk hy70002
  clear hy70002
  replace H := Option.bind_eq_some_iff.mp H
  obtain ⟨⟨t70005, t70006⟩, A20, H⟩ := H
  replace H : ((spec_reader_one.f k s0_0 t70006 (([0, 1, 0, 2, (-1)] : List Int))).bind fun bt70010 => ((spec_reader_one.f k s0_0 bt70010.2 (([1, 2, 3, 1, 0, 16] : List Int))).bind fun bt70015 => ((spec_reader_one.f k s0_0 bt70015.2 (([1, 2, 1, 3, 0] : List Int))).bind fun bt70020 => (some (t70005, bt70010.1, bt70015.1, bt70020.1, bt70020.2))))) = some (r1, r2, r3, r4, r5) := H
  have A2 := Aside0.mk A20
  clear A20
  obtain ⟨y70007, hy70007⟩ : ∃ y_ : List Int, y_ = (([0, 1, 0, 2, (-1)] : List Int)) := ⟨_, rfl⟩
  replace H : ((spec_reader_one.f k s0_0 t70006 y70007).bind fun bt70010 => ((spec_reader_one.f k s0_0 bt70010.2 (([1, 2, 3, 1, 0, 16] : List Int))).bind fun bt70015 => ((spec_reader_one.f k s0_0 bt70015.2 (([1, 2, 1, 3, 0] : List Int))).bind fun bt70020 => (some (t70005, bt70010.1, bt70015.1, bt70020.1, bt70020.2))))) = some (r1, r2, r3, r4, r5) := by first | (rw [hy70007]; with_reducible exact H) | (have H2_ := (Option.bind_some _ _).symm.trans H; rw [hy70007]; with_reducible exact H2_) | (have H2_ := (Option.bind_some _ _).symm.trans H; with_reducible exact H2_) | with_reducible exact H | (rw [hy70007]; exact H) | exact H
  have Ny70007 := Aside0.mk hy70007
  clear hy70007
  replace H := Option.bind_eq_some_iff.mp H
  obtain ⟨⟨t70010, t70011⟩, A30, H⟩ := H
  replace H : ((spec_reader_one.f k s0_0 t70011 (([1, 2, 3, 1, 0, 16] : List Int))).bind fun bt70015 => ((spec_reader_one.f k s0_0 bt70015.2 (([1, 2, 1, 3, 0] : List Int))).bind fun bt70020 => (some (t70005, t70010, bt70015.1, bt70020.1, bt70020.2)))) = some (r1, r2, r3, r4, r5) := H
  have A3 := Aside0.mk A30
  clear A30
  obtain ⟨y70012, hy70012⟩ : ∃ y_ : List Int, y_ = (([1, 2, 3, 1, 0, 16] : List Int)) := ⟨_, rfl⟩
  replace H : ((spec_reader_one.f k s0_0 t70011 y70012).bind fun bt70015 => ((spec_reader_one.f k s0_0 bt70015.2 (([1, 2, 1, 3, 0] : List Int))).bind fun bt70020 => (some (t70005, t70010, bt70015.1, bt70020.1, bt70020.2)))) = some (r1, r2, r3, r4, r5) := by first | (rw [hy70012]; with_reducible exact H) | (have H2_ := (Option.bind_some _ _).symm.trans H; rw [hy70012]; with_reducible exact H2_) | (have H2_ := (Option.bind_some _ _).symm.trans H; with_reducible exact H2_) | with_reducible exact H | (rw [hy70012]; exact H) | exact H
  have Ny70012 := Aside0.mk hy70012
  clear hy70012
  replace H := Option.bind_eq_some_iff.mp H
  obtain ⟨⟨t70015, t70016⟩, A40, H⟩ := H
  replace H : ((spec_reader_one.f k s0_0 t70016 (([1, 2, 1, 3, 0] : List Int))).bind fun bt70020 => (some (t70005, t70010, t70015, bt70020.1, bt70020.2))) = some (r1, r2, r3, r4, r5) := H
  have A4 := Aside0.mk A40
  clear A40
  obtain ⟨y70017, hy70017⟩ : ∃ y_ : List Int, y_ = (([1, 2, 1, 3, 0] : List Int)) := ⟨_, rfl⟩
  replace H : ((spec_reader_one.f k s0_0 t70016 y70017).bind fun bt70020 => (some (t70005, t70010, t70015, bt70020.1, bt70020.2))) = some (r1, r2, r3, r4, r5) := by first | (rw [hy70017]; with_reducible exact H) | (have H2_ := (Option.bind_some _ _).symm.trans H; rw [hy70017]; with_reducible exact H2_) | (have H2_ := (Option.bind_some _ _).symm.trans H; with_reducible exact H2_) | with_reducible exact H | (rw [hy70017]; exact H) | exact H
  have Ny70017 := Aside0.mk hy70017
  clear hy70017
  replace H := Option.bind_eq_some_iff.mp H
  obtain ⟨⟨t70020, t70021⟩, A50, H⟩ := H
  replace H : (some (t70005, t70010, t70015, t70020, t70021)) = some (r1, r2, r3, r4, r5) := H
  have A5 := Aside0.mk A50
  clear A50
  simp only [Option.some.injEq, Prod.mk.injEq] at H
  obtain ⟨rfl, rfl, rfl, rfl, rfl⟩ := H
  go_enter Try.func69, Try.ntmps69
  go_wp2_with (first | ((with_reducible refine gate_dst (N := 2) rfl ?_); refine box_event ?hg (N := 2) ?hd (cs := #[.int .i64 0, .int .i64 0, .int .i64 0, .int .i64 0]) (t := 36) ?hr ?_; (case hd => rfl); (case hg => rfl); (case hr => first | (go_simp; done) | (go_simp; rfl)); intro gb70001 hg w6 hbox hb; have n0_ := Aside0.mk (IsS88.below (by repeat (first | (with_reducible first | exact HI0.out | apply IsS88.alloc | apply IsS88.drewN | apply IsS88.drew | apply IsS88.set_1) | exact HI0.out)) hb); have n1_ := Aside0.mk (KeepBut.trans (by repeat (first | (with_reducible first | exact HK.out | apply KeepBut.set_ | apply keep_drewN | apply keep_drew | apply keep_alloc) | exact HK.out)) (KeepBut.of_below hb g none) (.inl rfl)); have n2_ := Aside0.mk (below_step (by repeat (first | (with_reducible first | exact HB.out | apply below_alloc | apply pw_below_drewN | apply below_drew1 | refine below_set ?_ (IsS88.ge HI0.out)) | exact HB.out)) hb); have n3_ := Aside0.mk (hbox); have n4_ := Aside0.mk ((by rw [hg]; exact (keep_size (w := w) (g := g) (row := none) (by repeat (first | (with_reducible first | exact HK.out | apply KeepBut.set_ | apply keep_drewN | apply keep_drew | apply keep_alloc) | exact HK.out))) : w.heap.size ≤ gb70001)); have n5_ := Aside0.mk ((Nat.le_trans HW0.out (by rw [hg]; exact (keep_size (w := w) (g := g) (row := none) (by repeat (first | (with_reducible first | exact HK.out | apply KeepBut.set_ | apply keep_drewN | apply keep_drew | apply keep_alloc) | exact HK.out))) : w.heap.size ≤ gb70001) : w0.heap.size ≤ gb70001)); have n6_ := Aside0.mk ((by rw [hg]; exact Nat.ne_of_lt (IsS88.lt (show IsS88 w0 _ g s0_0 s0_1 from by repeat (first | (with_reducible first | exact HI0.out | apply IsS88.alloc | apply IsS88.drewN | apply IsS88.drew | apply IsS88.set_1) | exact HI0.out))) : g ≠ gb70001)); have n7_ := Aside0.mk ((by rw [hg]; exact Nat.ne_of_gt (IsS88.lt (show IsS88 w0 _ g s0_0 s0_1 from by repeat (first | (with_reducible first | exact HI0.out | apply IsS88.alloc | apply IsS88.drewN | apply IsS88.drew | apply IsS88.set_1) | exact HI0.out))) : gb70001 ≠ g)); clear HI0; clear HK; clear HB; have HI0 := n0_; have HK := n1_; have HB := n2_; have BK70001 := n3_; have GW70001 := n4_; have GE70001 := n5_; have NB0_70001 := n6_; have NB70001_0 := n7_; clear n0_ n1_ n2_ n3_ n4_ n5_ n6_ n7_; clear hb hbox hg) | ((with_reducible refine gate_dst (N := 4) rfl ?_); refine Kd.R_lit (Kd.int .i64) _ 3 ?hg (N := 4) ?hd (xs := ([0, 1, 2, (-1), 0, 4] : List Int)) (inner := [.int .i64 0, .int .i64 1, .int .i64 2, .int .i64 (-1), .int .i64 0, .int .i64 4]) (ok := fun _ => True) (okp := fun _ => True) ?hr ?hp (fun _ hk => hk) trivial (Below.refl _ _) (Nat.le_refl _) (by simp) ?_; (case hd => rfl); (case hg => rfl); (case hr => first | (go_simp; done) | (go_simp; rfl)); (case hp => exact (Reps.one (show Kd.M (Kd.int .i64) _ _ _ 0 [.int .i64 0] from rfl) (Reps.one (show Kd.M (Kd.int .i64) _ _ _ 1 [.int .i64 1] from rfl) (Reps.one (show Kd.M (Kd.int .i64) _ _ _ 2 [.int .i64 2] from rfl) (Reps.one (show Kd.M (Kd.int .i64) _ _ _ (-1) [.int .i64 (-1)] from rfl) (Reps.one (show Kd.M (Kd.int .i64) _ _ _ 0 [.int .i64 0] from rfl) (Reps.one (show Kd.M (Kd.int .i64) _ _ _ 4 [.int .i64 4] from rfl) (Reps.none _ _)))))))); intro v70003 w7 ho8 hb hg_ hnew_; clear hg_ hnew_; (first | rw [← Ny70002.out] at ho8 | (simp only [Int.reduceToNat] at ho8; rw [← Ny70002.out] at ho8)); have n0_ := Aside0.mk (Kd.R_lower ho8 (keep_size (w := w) (g := g) (row := none) (by repeat (first | (with_reducible first | exact HK.out | apply KeepBut.set_ | apply keep_drewN | apply keep_drew | apply keep_alloc | refine keep_far ?_ GW70001.out _) | exact HK.out)))); have n1_ := Aside0.mk (IsS88.below (by repeat (first | (with_reducible first | exact HI0.out | apply IsS88.alloc | apply IsS88.drewN | apply IsS88.drew | apply IsS88.set_1 | refine IsS88.far ?_ NB0_70001.out _) | exact HI0.out)) hb); have n2_ := Aside0.mk (blk_below (g := gb70001) (o := .cells #[.int .i64 0, .int .i64 0, .int .i64 0, .int .i64 0] 36 (0, 0)) (by (with_reducible repeat (first | refine blk_drewN ?_ _ | refine blk_drew ?_ | refine blk_alloc ?_ _)); exact BK70001.out) hb); have n3_ := Aside0.mk (KeepBut.trans (by repeat (first | (with_reducible first | exact HK.out | apply KeepBut.set_ | apply keep_drewN | apply keep_drew | apply keep_alloc | refine keep_far ?_ GW70001.out _) | exact HK.out)) (KeepBut.of_below hb g none) (.inl rfl)); have n4_ := Aside0.mk (below_step (by repeat (first | (with_reducible first | exact HB.out | apply below_alloc | apply pw_below_drewN | apply below_drew1 | refine below_set ?_ (IsS88.ge HI0.out) | refine below_set ?_ GE70001.out) | exact HB.out)) hb); clear HI0; clear BK70001; clear HK; clear HB; have HO70004 := n0_; have HI0 := n1_; have BK70001 := n2_; have HK := n3_; have HB := n4_; clear n0_ n1_ n2_ n3_ n4_; clear hb ho8; obtain ⟨Ao9, co9, eo9⟩ := Kd.R_slice HO70004.out; subst eo9) | ((with_reducible refine gate_callee (f := 71) rfl ?_); refine goesL_ (some 5) rfl rfl Try.func71 (by kernel_rfl) rfl #[.pointer (some ⟨g, 0, none⟩), .slice Ao9 y70002.length co9] rfl (by (try simp only [List.map_toArray, List.map_cons, List.map_nil]); first | done | rfl | (simp only [List.length_drop, List.length_take]; rfl)) ?_; (with_reducible refine (spec_reader_one.calls k g s0_0 s0_1 _ _ y70002 t70005 t70006 w0 _ ?side1 ?side2 ?side3 ?side4 ?side5 A2.out).mono ?_); (case side1 => repeat (first | (with_reducible first | exact HI0.out | apply IsS88.alloc | apply IsS88.drewN | apply IsS88.drew | apply IsS88.set_1 | refine IsS88.far ?_ NB0_70001.out _) | exact HI0.out)); (case side2 => repeat (first | (with_reducible first | exact HB.out | apply below_alloc | apply pw_below_drewN | apply below_drew1 | refine below_set ?_ (IsS88.ge HI0.out) | refine below_set ?_ GE70001.out) | exact HB.out)); (case side3 => repeat (first | exact (Kd.R_reads' HO70004.out).2.2 | (with_reducible refine Kd.C_alloc ?_ _) | (with_reducible refine Kd.C_drewN ?_ _) | (with_reducible refine Kd.C_drew ?_))); (case side4 => exact (Kd.R_reads' HO70004.out).2.1); (case side5 => exact far_slice (IsS88.own_ne HI0.out HO70004.out (by decide))); rintro e w10 ⟨rfl, hi, hb, hk⟩; refine ⟨_, rfl, ?_⟩; have n0_ := Aside0.mk (KeepBut.blk hk (g' := gb70001) (o := .cells #[.int .i64 0, .int .i64 0, .int .i64 0, .int .i64 0] 36 (0, 0)) (by (with_reducible repeat (first | refine blk_drewN ?_ _ | refine blk_drew ?_ | refine blk_alloc ?_ _)); exact BK70001.out) NB70001_0.out (by simp)); have n1_ := Aside0.mk (Kd.R_mono (Kd.R_keep (IsS88.apart (show IsS88 w0 _ g s0_0 s0_1 from by repeat (first | (with_reducible first | exact HI0.out | apply IsS88.alloc | apply IsS88.drewN | apply IsS88.drew | apply IsS88.set_1 | refine IsS88.far ?_ NB0_70001.out _) | exact HI0.out)) (by (with_reducible repeat (first | apply Kd.R_alloc | apply Kd.R_drewN | apply Kd.R_drew)); exact HO70004.out) (by decide)) hk (fun _ h => h.2)) (fun _ h => h.1)); have n2_ := Aside0.mk (KeepBut.trans (by repeat (first | (with_reducible first | exact HK.out | apply KeepBut.set_ | apply keep_drewN | apply keep_drew | apply keep_alloc | refine keep_far ?_ GW70001.out _) | exact HK.out)) hk (.inl rfl)); have n3_ := Aside0.mk (hb); have n4_ := Aside0.mk (hi); clear BK70001; clear HO70004; clear HK; clear HB; clear HI0; have BK70001 := n0_; have HO70004 := n1_; have HK := n2_; have HB := n3_; have HI0 := n4_; clear n0_ n1_ n2_ n3_ n4_; (try clear hb); (try clear hb2); (try clear hk); (try clear hi)) | ((with_reducible refine gate_dst (N := 7) rfl ?_); refine Kd.R_lit (Kd.int .i64) _ 3 ?hg (N := 7) ?hd (xs := ([0, 1, 0, 2, (-1)] : List Int)) (inner := [.int .i64 0, .int .i64 1, .int .i64 0, .int .i64 2, .int .i64 (-1)]) (ok := fun _ => True) (okp := fun _ => True) ?hr ?hp (fun _ hk => hk) trivial (Below.refl _ _) (Nat.le_refl _) (by simp) ?_; (case hd => rfl); (case hg => rfl); (case hr => first | (go_simp; done) | (go_simp; rfl)); (case hp => exact (Reps.one (show Kd.M (Kd.int .i64) _ _ _ 0 [.int .i64 0] from rfl) (Reps.one (show Kd.M (Kd.int .i64) _ _ _ 1 [.int .i64 1] from rfl) (Reps.one (show Kd.M (Kd.int .i64) _ _ _ 0 [.int .i64 0] from rfl) (Reps.one (show Kd.M (Kd.int .i64) _ _ _ 2 [.int .i64 2] from rfl) (Reps.one (show Kd.M (Kd.int .i64) _ _ _ (-1) [.int .i64 (-1)] from rfl) (Reps.none _ _))))))); intro v70008 w11 ho12 hb hg_ hnew_; clear hg_ hnew_; (first | rw [← Ny70007.out] at ho12 | (simp only [Int.reduceToNat] at ho12; rw [← Ny70007.out] at ho12)); have n0_ := Aside0.mk (Kd.R_elder' (by (with_reducible repeat (first | apply Kd.R_alloc | apply Kd.R_drewN | apply Kd.R_drew)); exact HO70004.out) (Kd.R_base ho12) hb); have n1_ := Aside0.mk (Kd.R_lower (Kd.R_new' ho12 (Kd.R_lt (by (with_reducible repeat (first | apply Kd.R_alloc | apply Kd.R_drewN | apply Kd.R_drew)); exact HO70004.out))) (keep_size (w := w) (g := g) (row := none) (by repeat (first | (with_reducible first | exact HK.out | apply KeepBut.set_ | apply keep_drewN | apply keep_drew | apply keep_alloc | refine keep_far ?_ GW70001.out _) | exact HK.out)))); have n2_ := Aside0.mk (IsS88.below (by repeat (first | (with_reducible first | exact HI0.out | apply IsS88.alloc | apply IsS88.drewN | apply IsS88.drew | apply IsS88.set_1 | refine IsS88.far ?_ NB0_70001.out _) | exact HI0.out)) hb); have n3_ := Aside0.mk (blk_below (g := gb70001) (o := .cells #[.int .i64 0, .int .i64 0, .int .i64 0, .int .i64 0] 36 (0, 0)) (by (with_reducible repeat (first | refine blk_drewN ?_ _ | refine blk_drew ?_ | refine blk_alloc ?_ _)); exact BK70001.out) hb); have n4_ := Aside0.mk (KeepBut.trans (by repeat (first | (with_reducible first | exact HK.out | apply KeepBut.set_ | apply keep_drewN | apply keep_drew | apply keep_alloc | refine keep_far ?_ GW70001.out _) | exact HK.out)) (KeepBut.of_below hb g none) (.inl rfl)); have n5_ := Aside0.mk (below_step (by repeat (first | (with_reducible first | exact HB.out | apply below_alloc | apply pw_below_drewN | apply below_drew1 | refine below_set ?_ (IsS88.ge HI0.out) | refine below_set ?_ GE70001.out) | exact HB.out)) hb); clear HO70004; clear HI0; clear BK70001; clear HK; clear HB; have HO70004 := n0_; have HO70009 := n1_; have HI0 := n2_; have BK70001 := n3_; have HK := n4_; have HB := n5_; clear n0_ n1_ n2_ n3_ n4_ n5_; clear hb ho12; obtain ⟨Ao13, co13, eo13⟩ := Kd.R_slice HO70009.out; subst eo13) | ((with_reducible refine gate_callee (f := 71) rfl ?_); refine goesL_ (some 8) rfl rfl Try.func71 (by kernel_rfl) rfl #[.pointer (some ⟨g, 0, none⟩), .slice Ao13 y70007.length co13] rfl (by (try simp only [List.map_toArray, List.map_cons, List.map_nil]); first | done | rfl | (simp only [List.length_drop, List.length_take]; rfl)) ?_; (with_reducible refine (spec_reader_one.calls k g s0_0 t70006 _ _ y70007 t70010 t70011 w0 _ ?side1 ?side2 ?side3 ?side4 ?side5 A3.out).mono ?_); (case side1 => repeat (first | (with_reducible first | exact HI0.out | apply IsS88.alloc | apply IsS88.drewN | apply IsS88.drew | apply IsS88.set_1 | refine IsS88.far ?_ NB0_70001.out _) | exact HI0.out)); (case side2 => repeat (first | (with_reducible first | exact HB.out | apply below_alloc | apply pw_below_drewN | apply below_drew1 | refine below_set ?_ (IsS88.ge HI0.out) | refine below_set ?_ GE70001.out) | exact HB.out)); (case side3 => repeat (first | exact (Kd.R_reads' HO70009.out).2.2 | (with_reducible refine Kd.C_alloc ?_ _) | (with_reducible refine Kd.C_drewN ?_ _) | (with_reducible refine Kd.C_drew ?_))); (case side4 => exact (Kd.R_reads' HO70009.out).2.1); (case side5 => exact far_slice (IsS88.own_ne HI0.out HO70009.out (by decide))); rintro e w14 ⟨rfl, hi, hb, hk⟩; refine ⟨_, rfl, ?_⟩; have n0_ := Aside0.mk (KeepBut.blk hk (g' := gb70001) (o := .cells #[.int .i64 0, .int .i64 0, .int .i64 0, .int .i64 0] 36 (0, 0)) (by (with_reducible repeat (first | refine blk_drewN ?_ _ | refine blk_drew ?_ | refine blk_alloc ?_ _)); exact BK70001.out) NB70001_0.out (by simp)); have n1_ := Aside0.mk (Kd.R_mono (Kd.R_keep (IsS88.apart (show IsS88 w0 _ g s0_0 t70006 from by repeat (first | (with_reducible first | exact HI0.out | apply IsS88.alloc | apply IsS88.drewN | apply IsS88.drew | apply IsS88.set_1 | refine IsS88.far ?_ NB0_70001.out _) | exact HI0.out)) (by (with_reducible repeat (first | apply Kd.R_alloc | apply Kd.R_drewN | apply Kd.R_drew)); exact HO70004.out) (by decide)) hk (fun _ h => h.2)) (fun _ h => h.1)); have n2_ := Aside0.mk (Kd.R_mono (Kd.R_keep (IsS88.apart (show IsS88 w0 _ g s0_0 t70006 from by repeat (first | (with_reducible first | exact HI0.out | apply IsS88.alloc | apply IsS88.drewN | apply IsS88.drew | apply IsS88.set_1 | refine IsS88.far ?_ NB0_70001.out _) | exact HI0.out)) (by (with_reducible repeat (first | apply Kd.R_alloc | apply Kd.R_drewN | apply Kd.R_drew)); exact HO70009.out) (by decide)) hk (fun _ h => h.2)) (fun _ h => h.1)); have n3_ := Aside0.mk (KeepBut.trans (by repeat (first | (with_reducible first | exact HK.out | apply KeepBut.set_ | apply keep_drewN | apply keep_drew | apply keep_alloc | refine keep_far ?_ GW70001.out _) | exact HK.out)) hk (.inl rfl)); have n4_ := Aside0.mk (hb); have n5_ := Aside0.mk (hi); clear BK70001; clear HO70004; clear HO70009; clear HK; clear HB; clear HI0; have BK70001 := n0_; have HO70004 := n1_; have HO70009 := n2_; have HK := n3_; have HB := n4_; have HI0 := n5_; clear n0_ n1_ n2_ n3_ n4_ n5_; (try clear hb); (try clear hb2); (try clear hk); (try clear hi)) | ((with_reducible refine gate_dst (N := 10) rfl ?_); refine Kd.R_lit (Kd.int .i64) _ 3 ?hg (N := 10) ?hd (xs := ([1, 2, 3, 1, 0, 16] : List Int)) (inner := [.int .i64 1, .int .i64 2, .int .i64 3, .int .i64 1, .int .i64 0, .int .i64 16]) (ok := fun _ => True) (okp := fun _ => True) ?hr ?hp (fun _ hk => hk) trivial (Below.refl _ _) (Nat.le_refl _) (by simp) ?_; (case hd => rfl); (case hg => rfl); (case hr => first | (go_simp; done) | (go_simp; rfl)); (case hp => exact (Reps.one (show Kd.M (Kd.int .i64) _ _ _ 1 [.int .i64 1] from rfl) (Reps.one (show Kd.M (Kd.int .i64) _ _ _ 2 [.int .i64 2] from rfl) (Reps.one (show Kd.M (Kd.int .i64) _ _ _ 3 [.int .i64 3] from rfl) (Reps.one (show Kd.M (Kd.int .i64) _ _ _ 1 [.int .i64 1] from rfl) (Reps.one (show Kd.M (Kd.int .i64) _ _ _ 0 [.int .i64 0] from rfl) (Reps.one (show Kd.M (Kd.int .i64) _ _ _ 16 [.int .i64 16] from rfl) (Reps.none _ _)))))))); intro v70013 w15 ho16 hb hg_ hnew_; clear hg_ hnew_; (first | rw [← Ny70012.out] at ho16 | (simp only [Int.reduceToNat] at ho16; rw [← Ny70012.out] at ho16)); have n0_ := Aside0.mk (Kd.R_elder' (by (with_reducible repeat (first | apply Kd.R_alloc | apply Kd.R_drewN | apply Kd.R_drew)); exact HO70004.out) (Kd.R_base ho16) hb); have n1_ := Aside0.mk (Kd.R_elder' (by (with_reducible repeat (first | apply Kd.R_alloc | apply Kd.R_drewN | apply Kd.R_drew)); exact HO70009.out) (Kd.R_base ho16) hb); have n2_ := Aside0.mk (Kd.R_lower (Kd.R_new' (Kd.R_new' ho16 (Kd.R_lt (by (with_reducible repeat (first | apply Kd.R_alloc | apply Kd.R_drewN | apply Kd.R_drew)); exact HO70004.out))) (Kd.R_lt (by (with_reducible repeat (first | apply Kd.R_alloc | apply Kd.R_drewN | apply Kd.R_drew)); exact HO70009.out))) (keep_size (w := w) (g := g) (row := none) (by repeat (first | (with_reducible first | exact HK.out | apply KeepBut.set_ | apply keep_drewN | apply keep_drew | apply keep_alloc | refine keep_far ?_ GW70001.out _) | exact HK.out)))); have n3_ := Aside0.mk (IsS88.below (by repeat (first | (with_reducible first | exact HI0.out | apply IsS88.alloc | apply IsS88.drewN | apply IsS88.drew | apply IsS88.set_1 | refine IsS88.far ?_ NB0_70001.out _) | exact HI0.out)) hb); have n4_ := Aside0.mk (blk_below (g := gb70001) (o := .cells #[.int .i64 0, .int .i64 0, .int .i64 0, .int .i64 0] 36 (0, 0)) (by (with_reducible repeat (first | refine blk_drewN ?_ _ | refine blk_drew ?_ | refine blk_alloc ?_ _)); exact BK70001.out) hb); have n5_ := Aside0.mk (KeepBut.trans (by repeat (first | (with_reducible first | exact HK.out | apply KeepBut.set_ | apply keep_drewN | apply keep_drew | apply keep_alloc | refine keep_far ?_ GW70001.out _) | exact HK.out)) (KeepBut.of_below hb g none) (.inl rfl)); have n6_ := Aside0.mk (below_step (by repeat (first | (with_reducible first | exact HB.out | apply below_alloc | apply pw_below_drewN | apply below_drew1 | refine below_set ?_ (IsS88.ge HI0.out) | refine below_set ?_ GE70001.out) | exact HB.out)) hb); clear HO70004; clear HO70009; clear HI0; clear BK70001; clear HK; clear HB; have HO70004 := n0_; have HO70009 := n1_; have HO70014 := n2_; have HI0 := n3_; have BK70001 := n4_; have HK := n5_; have HB := n6_; clear n0_ n1_ n2_ n3_ n4_ n5_ n6_; clear hb ho16; obtain ⟨Ao17, co17, eo17⟩ := Kd.R_slice HO70014.out; subst eo17) | ((with_reducible refine gate_callee (f := 71) rfl ?_); refine goesL_ (some 11) rfl rfl Try.func71 (by kernel_rfl) rfl #[.pointer (some ⟨g, 0, none⟩), .slice Ao17 y70012.length co17] rfl (by (try simp only [List.map_toArray, List.map_cons, List.map_nil]); first | done | rfl | (simp only [List.length_drop, List.length_take]; rfl)) ?_; (with_reducible refine (spec_reader_one.calls k g s0_0 t70011 _ _ y70012 t70015 t70016 w0 _ ?side1 ?side2 ?side3 ?side4 ?side5 A4.out).mono ?_); (case side1 => repeat (first | (with_reducible first | exact HI0.out | apply IsS88.alloc | apply IsS88.drewN | apply IsS88.drew | apply IsS88.set_1 | refine IsS88.far ?_ NB0_70001.out _) | exact HI0.out)); (case side2 => repeat (first | (with_reducible first | exact HB.out | apply below_alloc | apply pw_below_drewN | apply below_drew1 | refine below_set ?_ (IsS88.ge HI0.out) | refine below_set ?_ GE70001.out) | exact HB.out)); (case side3 => repeat (first | exact (Kd.R_reads' HO70014.out).2.2 | (with_reducible refine Kd.C_alloc ?_ _) | (with_reducible refine Kd.C_drewN ?_ _) | (with_reducible refine Kd.C_drew ?_))); (case side4 => exact (Kd.R_reads' HO70014.out).2.1); (case side5 => exact far_slice (IsS88.own_ne HI0.out HO70014.out (by decide))); rintro e w18 ⟨rfl, hi, hb, hk⟩; refine ⟨_, rfl, ?_⟩; have n0_ := Aside0.mk (KeepBut.blk hk (g' := gb70001) (o := .cells #[.int .i64 0, .int .i64 0, .int .i64 0, .int .i64 0] 36 (0, 0)) (by (with_reducible repeat (first | refine blk_drewN ?_ _ | refine blk_drew ?_ | refine blk_alloc ?_ _)); exact BK70001.out) NB70001_0.out (by simp)); have n1_ := Aside0.mk (Kd.R_mono (Kd.R_keep (IsS88.apart (show IsS88 w0 _ g s0_0 t70011 from by repeat (first | (with_reducible first | exact HI0.out | apply IsS88.alloc | apply IsS88.drewN | apply IsS88.drew | apply IsS88.set_1 | refine IsS88.far ?_ NB0_70001.out _) | exact HI0.out)) (by (with_reducible repeat (first | apply Kd.R_alloc | apply Kd.R_drewN | apply Kd.R_drew)); exact HO70004.out) (by decide)) hk (fun _ h => h.2)) (fun _ h => h.1)); have n2_ := Aside0.mk (Kd.R_mono (Kd.R_keep (IsS88.apart (show IsS88 w0 _ g s0_0 t70011 from by repeat (first | (with_reducible first | exact HI0.out | apply IsS88.alloc | apply IsS88.drewN | apply IsS88.drew | apply IsS88.set_1 | refine IsS88.far ?_ NB0_70001.out _) | exact HI0.out)) (by (with_reducible repeat (first | apply Kd.R_alloc | apply Kd.R_drewN | apply Kd.R_drew)); exact HO70009.out) (by decide)) hk (fun _ h => h.2)) (fun _ h => h.1)); have n3_ := Aside0.mk (Kd.R_mono (Kd.R_keep (IsS88.apart (show IsS88 w0 _ g s0_0 t70011 from by repeat (first | (with_reducible first | exact HI0.out | apply IsS88.alloc | apply IsS88.drewN | apply IsS88.drew | apply IsS88.set_1 | refine IsS88.far ?_ NB0_70001.out _) | exact HI0.out)) (by (with_reducible repeat (first | apply Kd.R_alloc | apply Kd.R_drewN | apply Kd.R_drew)); exact HO70014.out) (by decide)) hk (fun _ h => h.2)) (fun _ h => h.1)); have n4_ := Aside0.mk (KeepBut.trans (by repeat (first | (with_reducible first | exact HK.out | apply KeepBut.set_ | apply keep_drewN | apply keep_drew | apply keep_alloc | refine keep_far ?_ GW70001.out _) | exact HK.out)) hk (.inl rfl)); have n5_ := Aside0.mk (hb); have n6_ := Aside0.mk (hi); clear BK70001; clear HO70004; clear HO70009; clear HO70014; clear HK; clear HB; clear HI0; have BK70001 := n0_; have HO70004 := n1_; have HO70009 := n2_; have HO70014 := n3_; have HK := n4_; have HB := n5_; have HI0 := n6_; clear n0_ n1_ n2_ n3_ n4_ n5_ n6_; (try clear hb); (try clear hb2); (try clear hk); (try clear hi)) | ((with_reducible refine gate_dst (N := 13) rfl ?_); refine Kd.R_lit (Kd.int .i64) _ 3 ?hg (N := 13) ?hd (xs := ([1, 2, 1, 3, 0] : List Int)) (inner := [.int .i64 1, .int .i64 2, .int .i64 1, .int .i64 3, .int .i64 0]) (ok := fun _ => True) (okp := fun _ => True) ?hr ?hp (fun _ hk => hk) trivial (Below.refl _ _) (Nat.le_refl _) (by simp) ?_; (case hd => rfl); (case hg => rfl); (case hr => first | (go_simp; done) | (go_simp; rfl)); (case hp => exact (Reps.one (show Kd.M (Kd.int .i64) _ _ _ 1 [.int .i64 1] from rfl) (Reps.one (show Kd.M (Kd.int .i64) _ _ _ 2 [.int .i64 2] from rfl) (Reps.one (show Kd.M (Kd.int .i64) _ _ _ 1 [.int .i64 1] from rfl) (Reps.one (show Kd.M (Kd.int .i64) _ _ _ 3 [.int .i64 3] from rfl) (Reps.one (show Kd.M (Kd.int .i64) _ _ _ 0 [.int .i64 0] from rfl) (Reps.none _ _))))))); intro v70018 w19 ho20 hb hg_ hnew_; clear hg_ hnew_; (first | rw [← Ny70017.out] at ho20 | (simp only [Int.reduceToNat] at ho20; rw [← Ny70017.out] at ho20)); have n0_ := Aside0.mk (Kd.R_elder' (by (with_reducible repeat (first | apply Kd.R_alloc | apply Kd.R_drewN | apply Kd.R_drew)); exact HO70004.out) (Kd.R_base ho20) hb); have n1_ := Aside0.mk (Kd.R_elder' (by (with_reducible repeat (first | apply Kd.R_alloc | apply Kd.R_drewN | apply Kd.R_drew)); exact HO70009.out) (Kd.R_base ho20) hb); have n2_ := Aside0.mk (Kd.R_elder' (by (with_reducible repeat (first | apply Kd.R_alloc | apply Kd.R_drewN | apply Kd.R_drew)); exact HO70014.out) (Kd.R_base ho20) hb); have n3_ := Aside0.mk (Kd.R_lower (Kd.R_new' (Kd.R_new' (Kd.R_new' ho20 (Kd.R_lt (by (with_reducible repeat (first | apply Kd.R_alloc | apply Kd.R_drewN | apply Kd.R_drew)); exact HO70004.out))) (Kd.R_lt (by (with_reducible repeat (first | apply Kd.R_alloc | apply Kd.R_drewN | apply Kd.R_drew)); exact HO70009.out))) (Kd.R_lt (by (with_reducible repeat (first | apply Kd.R_alloc | apply Kd.R_drewN | apply Kd.R_drew)); exact HO70014.out))) (keep_size (w := w) (g := g) (row := none) (by repeat (first | (with_reducible first | exact HK.out | apply KeepBut.set_ | apply keep_drewN | apply keep_drew | apply keep_alloc | refine keep_far ?_ GW70001.out _) | exact HK.out)))); have n4_ := Aside0.mk (IsS88.below (by repeat (first | (with_reducible first | exact HI0.out | apply IsS88.alloc | apply IsS88.drewN | apply IsS88.drew | apply IsS88.set_1 | refine IsS88.far ?_ NB0_70001.out _) | exact HI0.out)) hb); have n5_ := Aside0.mk (blk_below (g := gb70001) (o := .cells #[.int .i64 0, .int .i64 0, .int .i64 0, .int .i64 0] 36 (0, 0)) (by (with_reducible repeat (first | refine blk_drewN ?_ _ | refine blk_drew ?_ | refine blk_alloc ?_ _)); exact BK70001.out) hb); have n6_ := Aside0.mk (KeepBut.trans (by repeat (first | (with_reducible first | exact HK.out | apply KeepBut.set_ | apply keep_drewN | apply keep_drew | apply keep_alloc | refine keep_far ?_ GW70001.out _) | exact HK.out)) (KeepBut.of_below hb g none) (.inl rfl)); have n7_ := Aside0.mk (below_step (by repeat (first | (with_reducible first | exact HB.out | apply below_alloc | apply pw_below_drewN | apply below_drew1 | refine below_set ?_ (IsS88.ge HI0.out) | refine below_set ?_ GE70001.out) | exact HB.out)) hb); clear HO70004; clear HO70009; clear HO70014; clear HI0; clear BK70001; clear HK; clear HB; have HO70004 := n0_; have HO70009 := n1_; have HO70014 := n2_; have HO70019 := n3_; have HI0 := n4_; have BK70001 := n5_; have HK := n6_; have HB := n7_; clear n0_ n1_ n2_ n3_ n4_ n5_ n6_ n7_; clear hb ho20; obtain ⟨Ao21, co21, eo21⟩ := Kd.R_slice HO70019.out; subst eo21) | ((with_reducible refine gate_callee (f := 71) rfl ?_); refine goesL_ (some 14) rfl rfl Try.func71 (by kernel_rfl) rfl #[.pointer (some ⟨g, 0, none⟩), .slice Ao21 y70017.length co21] rfl (by (try simp only [List.map_toArray, List.map_cons, List.map_nil]); first | done | rfl | (simp only [List.length_drop, List.length_take]; rfl)) ?_; (with_reducible refine (spec_reader_one.calls k g s0_0 t70016 _ _ y70017 t70020 t70021 w0 _ ?side1 ?side2 ?side3 ?side4 ?side5 A5.out).mono ?_); (case side1 => repeat (first | (with_reducible first | exact HI0.out | apply IsS88.alloc | apply IsS88.drewN | apply IsS88.drew | apply IsS88.set_1 | refine IsS88.far ?_ NB0_70001.out _) | exact HI0.out)); (case side2 => repeat (first | (with_reducible first | exact HB.out | apply below_alloc | apply pw_below_drewN | apply below_drew1 | refine below_set ?_ (IsS88.ge HI0.out) | refine below_set ?_ GE70001.out) | exact HB.out)); (case side3 => repeat (first | exact (Kd.R_reads' HO70019.out).2.2 | (with_reducible refine Kd.C_alloc ?_ _) | (with_reducible refine Kd.C_drewN ?_ _) | (with_reducible refine Kd.C_drew ?_))); (case side4 => exact (Kd.R_reads' HO70019.out).2.1); (case side5 => exact far_slice (IsS88.own_ne HI0.out HO70019.out (by decide))); rintro e w22 ⟨rfl, hi, hb, hk⟩; refine ⟨_, rfl, ?_⟩; have n0_ := Aside0.mk (KeepBut.blk hk (g' := gb70001) (o := .cells #[.int .i64 0, .int .i64 0, .int .i64 0, .int .i64 0] 36 (0, 0)) (by (with_reducible repeat (first | refine blk_drewN ?_ _ | refine blk_drew ?_ | refine blk_alloc ?_ _)); exact BK70001.out) NB70001_0.out (by simp)); have n1_ := Aside0.mk (Kd.R_mono (Kd.R_keep (IsS88.apart (show IsS88 w0 _ g s0_0 t70016 from by repeat (first | (with_reducible first | exact HI0.out | apply IsS88.alloc | apply IsS88.drewN | apply IsS88.drew | apply IsS88.set_1 | refine IsS88.far ?_ NB0_70001.out _) | exact HI0.out)) (by (with_reducible repeat (first | apply Kd.R_alloc | apply Kd.R_drewN | apply Kd.R_drew)); exact HO70004.out) (by decide)) hk (fun _ h => h.2)) (fun _ h => h.1)); have n2_ := Aside0.mk (Kd.R_mono (Kd.R_keep (IsS88.apart (show IsS88 w0 _ g s0_0 t70016 from by repeat (first | (with_reducible first | exact HI0.out | apply IsS88.alloc | apply IsS88.drewN | apply IsS88.drew | apply IsS88.set_1 | refine IsS88.far ?_ NB0_70001.out _) | exact HI0.out)) (by (with_reducible repeat (first | apply Kd.R_alloc | apply Kd.R_drewN | apply Kd.R_drew)); exact HO70009.out) (by decide)) hk (fun _ h => h.2)) (fun _ h => h.1)); have n3_ := Aside0.mk (Kd.R_mono (Kd.R_keep (IsS88.apart (show IsS88 w0 _ g s0_0 t70016 from by repeat (first | (with_reducible first | exact HI0.out | apply IsS88.alloc | apply IsS88.drewN | apply IsS88.drew | apply IsS88.set_1 | refine IsS88.far ?_ NB0_70001.out _) | exact HI0.out)) (by (with_reducible repeat (first | apply Kd.R_alloc | apply Kd.R_drewN | apply Kd.R_drew)); exact HO70014.out) (by decide)) hk (fun _ h => h.2)) (fun _ h => h.1)); have n4_ := Aside0.mk (Kd.R_mono (Kd.R_keep (IsS88.apart (show IsS88 w0 _ g s0_0 t70016 from by repeat (first | (with_reducible first | exact HI0.out | apply IsS88.alloc | apply IsS88.drewN | apply IsS88.drew | apply IsS88.set_1 | refine IsS88.far ?_ NB0_70001.out _) | exact HI0.out)) (by (with_reducible repeat (first | apply Kd.R_alloc | apply Kd.R_drewN | apply Kd.R_drew)); exact HO70019.out) (by decide)) hk (fun _ h => h.2)) (fun _ h => h.1)); have n5_ := Aside0.mk (KeepBut.trans (by repeat (first | (with_reducible first | exact HK.out | apply KeepBut.set_ | apply keep_drewN | apply keep_drew | apply keep_alloc | refine keep_far ?_ GW70001.out _) | exact HK.out)) hk (.inl rfl)); have n6_ := Aside0.mk (hb); have n7_ := Aside0.mk (hi); clear BK70001; clear HO70004; clear HO70009; clear HO70014; clear HO70019; clear HK; clear HB; clear HI0; have BK70001 := n0_; have HO70004 := n1_; have HO70009 := n2_; have HO70014 := n3_; have HO70019 := n4_; have HK := n5_; have HB := n6_; have HI0 := n7_; clear n0_ n1_ n2_ n3_ n4_ n5_ n6_ n7_; (try clear hb); (try clear hb2); (try clear hk); (try clear hi); have hnb23 := NB70001_0.out; have hnc23 := NB0_70001.out; have hcz24_0 : w22.cell? ⟨gb70001, 0, none⟩ = some (.int .i64 0) := (blk_cell BK70001.out 0).trans rfl; have hcz24_1 : w22.cell? ⟨gb70001, 1, none⟩ = some (.int .i64 0) := (blk_cell BK70001.out 1).trans rfl; have hcz24_2 : w22.cell? ⟨gb70001, 2, none⟩ = some (.int .i64 0) := (blk_cell BK70001.out 2).trans rfl; have hcz24_3 : w22.cell? ⟨gb70001, 3, none⟩ = some (.int .i64 0) := (blk_cell BK70001.out 3).trans rfl; have hfz24_0 := blk_frozen BK70001.out 0; have hfz24_1 := blk_frozen BK70001.out 1; have hfz24_2 := blk_frozen BK70001.out 2; have hfz24_3 := blk_frozen BK70001.out 3))
  refine bodyPost_ret (results_cell_row rfl _ _ gb70001 36 #[.int .i64 t70005, .int .i64 t70010, .int .i64 t70015, .int .i64 t70020] (0, 0) _ rfl (by (with_reducible repeat (first | refine blk_drewN ?_ _ | refine blk_drew ?_ | refine blk_alloc ?_ _)); refine blk_put (cs := #[.int .i64 t70005, .int .i64 t70010, .int .i64 t70015, .int .i64 0]) ?_ 3 _ rfl; (with_reducible repeat (first | refine blk_drewN ?_ _ | refine blk_drew ?_ | refine blk_alloc ?_ _)); refine blk_put (cs := #[.int .i64 t70005, .int .i64 t70010, .int .i64 0, .int .i64 0]) ?_ 2 _ rfl; (with_reducible repeat (first | refine blk_drewN ?_ _ | refine blk_drew ?_ | refine blk_alloc ?_ _)); refine blk_put (cs := #[.int .i64 t70005, .int .i64 0, .int .i64 0, .int .i64 0]) ?_ 1 _ rfl; (with_reducible repeat (first | refine blk_drewN ?_ _ | refine blk_drew ?_ | refine blk_alloc ?_ _)); refine blk_put (cs := #[.int .i64 0, .int .i64 0, .int .i64 0, .int .i64 0]) ?_ 0 _ rfl; (with_reducible repeat (first | refine blk_drewN ?_ _ | refine blk_drew ?_ | refine blk_alloc ?_ _)); exact BK70001.out) Try.underlying36 rfl (by kernel_rfl)) rfl ?_
  exact ⟨by first | rfl | (simp [errW_none, errW_some] <;> rfl) | (simp [*, errW_none, errW_some] <;> rfl), by repeat (first | (with_reducible first | exact HI0.out | apply IsS88.alloc | apply IsS88.drewN | apply IsS88.drew | apply IsS88.set_1 | refine IsS88.far ?_ NB0_70001.out _) | exact HI0.out), by repeat (first | (with_reducible first | exact HB.out | apply below_alloc | apply pw_below_drewN | apply below_drew1 | refine below_set ?_ (IsS88.ge HI0.out) | refine below_set ?_ GE70001.out) | exact HB.out), by repeat (first | (with_reducible first | exact HK.out | apply KeepBut.set_ | apply keep_drewN | apply keep_drew | apply keep_alloc | refine keep_far ?_ GW70001.out _) | exact HK.out)⟩

end Go.Proofs.Ytfgeickfheogoaa.Q

namespace Go.Proofs.Ytfgeickfheogoaa.Q
open Go.RowKit Go.Proofs.YtfgeickfheogoaaW.PrintWords Go.Proofs.YtfgeickfheogoaaW.PrintLast Go.Proofs.YtfgeickfheogoaaW.PrintMore
attribute [local go_sem] max2_int min2_int max_two min_two max_three min_three max_four min_four
set_option linter.unusedVariables false
set_option linter.unusedSimpArgs false
/-! ### spec_DrawBoxRegion: function 34 -/
def spec_DrawBoxRegion.f (k : Nat) (l0 : List Int) : Option (Int × Int × Int × Int) := (spec_newReader.f l0).bind fun bt35002 => ((spec_anyBox.f k bt35002.1 bt35002.2).bind fun bt35005 => ((spec_reader_pick.f k bt35002.1 bt35005.2.2.2.2 8).bind fun bt35011 => (if bt35011.1 = 0 then ((spec_reader_one.f k bt35002.1 bt35011.2 (([0, 15, 16] : List Int))).bind fun bt35016 => ((spec_reader_one.f k bt35002.1 bt35016.2 (([0, 15] : List Int))).bind fun bt35021 => ((spec_reader_one.f k bt35002.1 bt35021.2 (([1, 16, 17] : List Int))).bind fun bt35026 => ((spec_reader_one.f k bt35002.1 bt35026.2 (([1, 16] : List Int))).bind fun bt35031 => (some (bt35016.1, bt35021.1, bt35026.1, bt35031.1)))))) else (some (bt35005.1, bt35005.2.1, bt35005.2.2.1, bt35005.2.2.2.1)))))
theorem spec_DrawBoxRegion.mono : ∀ a0 k, LeO (spec_DrawBoxRegion.f k a0) (spec_DrawBoxRegion.f (k + 1) a0) := by
  intro a0 k
  unfold spec_DrawBoxRegion.f
  repeat' first
      | (with_reducible exact spec_anyBox.mono _ _ _)
      | (with_reducible exact spec_reader_one.mono _ _ _ _)
      | (with_reducible exact spec_reader_pick.mono _ _ _ _)
      | (with_reducible exact LeO.refl _)
      | (with_reducible exact LeO.none _)
      | (with_reducible refine LeO.ite ?_ ?_)
      | (with_reducible refine LeO.bind ?_ (fun _ => ?_))
      | exact spec_anyBox.mono _ _ _
      | exact spec_reader_one.mono _ _ _ _
      | exact spec_reader_pick.mono _ _ _ _
      | exact LeO.none _
      | refine LeO.ite ?_ ?_
      | refine LeO.bind ?_ (fun _ => ?_)
set_option maxHeartbeats 8000000 in
set_option maxRecDepth 100000 in
theorem spec_DrawBoxRegion.calls (k : Nat) (A0 : Option Addr) (c0 : Nat) (l0 : List Int) (r1 : Int) (r2 : Int) (r3 : Int) (r4 : Int) (w : World) (hr0 : Kd.C (Kd.int .u8) w A0 l0.length l0) (hc0 : l0.length ≤ c0) (h : spec_DrawBoxRegion.f k l0 = some (r1, r2, r3, r4)) :
    Calls Try.prog 34 #[.slice A0 l0.length c0] w fun e w' => e = .returned (.agg #[.int .i64 r1, .int .i64 r2, .int .i64 r3, .int .i64 r4]) ∧ Below w.heap.size w w' := by
  have hu36 := Try.underlying36
  have HR0 := Aside0.mk hr0
  have HC0 := Aside0.mk hc0
  clear hr0 hc0
  have HB := Aside0.mk (Below.refl w.heap.size w)
  have H : ((spec_newReader.f l0).bind fun bt35002 => ((spec_anyBox.f k bt35002.1 bt35002.2).bind fun bt35005 => ((spec_reader_pick.f k bt35002.1 bt35005.2.2.2.2 8).bind fun bt35011 => (if bt35011.1 = 0 then ((spec_reader_one.f k bt35002.1 bt35011.2 (([0, 15, 16] : List Int))).bind fun bt35016 => ((spec_reader_one.f k bt35002.1 bt35016.2 (([0, 15] : List Int))).bind fun bt35021 => ((spec_reader_one.f k bt35002.1 bt35021.2 (([1, 16, 17] : List Int))).bind fun bt35026 => ((spec_reader_one.f k bt35002.1 bt35026.2 (([1, 16] : List Int))).bind fun bt35031 => (some (bt35016.1, bt35021.1, bt35026.1, bt35031.1)))))) else (some (bt35005.1, bt35005.2.1, bt35005.2.2.1, bt35005.2.2.2.1)))))) = some (r1, r2, r3, r4) := h
  clear h
  replace H := Option.bind_eq_some_iff.mp H
  obtain ⟨⟨t35002, t35003⟩, A20, H⟩ := H
  replace H : ((spec_anyBox.f k t35002 t35003).bind fun bt35005 => ((spec_reader_pick.f k t35002 bt35005.2.2.2.2 8).bind fun bt35011 => (if bt35011.1 = 0 then ((spec_reader_one.f k t35002 bt35011.2 (([0, 15, 16] : List Int))).bind fun bt35016 => ((spec_reader_one.f k t35002 bt35016.2 (([0, 15] : List Int))).bind fun bt35021 => ((spec_reader_one.f k t35002 bt35021.2 (([1, 16, 17] : List Int))).bind fun bt35026 => ((spec_reader_one.f k t35002 bt35026.2 (([1, 16] : List Int))).bind fun bt35031 => (some (bt35016.1, bt35021.1, bt35026.1, bt35031.1)))))) else (some (bt35005.1, bt35005.2.1, bt35005.2.2.1, bt35005.2.2.2.1))))) = some (r1, r2, r3, r4) := H
  have A2 := Aside0.mk A20
  clear A20
  replace H := Option.bind_eq_some_iff.mp H
  obtain ⟨⟨t35005, t35006, t35007, t35008, t35009⟩, A30, H⟩ := H
  replace H : ((spec_reader_pick.f k t35002 t35009 8).bind fun bt35011 => (if bt35011.1 = 0 then ((spec_reader_one.f k t35002 bt35011.2 (([0, 15, 16] : List Int))).bind fun bt35016 => ((spec_reader_one.f k t35002 bt35016.2 (([0, 15] : List Int))).bind fun bt35021 => ((spec_reader_one.f k t35002 bt35021.2 (([1, 16, 17] : List Int))).bind fun bt35026 => ((spec_reader_one.f k t35002 bt35026.2 (([1, 16] : List Int))).bind fun bt35031 => (some (bt35016.1, bt35021.1, bt35026.1, bt35031.1)))))) else (some (t35005, t35006, t35007, t35008)))) = some (r1, r2, r3, r4) := H
  have A3 := Aside0.mk A30
  clear A30
  replace H := Option.bind_eq_some_iff.mp H
  obtain ⟨⟨t35011, t35012⟩, A40, H⟩ := H
  replace H : (if t35011 = 0 then ((spec_reader_one.f k t35002 t35012 (([0, 15, 16] : List Int))).bind fun bt35016 => ((spec_reader_one.f k t35002 bt35016.2 (([0, 15] : List Int))).bind fun bt35021 => ((spec_reader_one.f k t35002 bt35021.2 (([1, 16, 17] : List Int))).bind fun bt35026 => ((spec_reader_one.f k t35002 bt35026.2 (([1, 16] : List Int))).bind fun bt35031 => (some (bt35016.1, bt35021.1, bt35026.1, bt35031.1)))))) else (some (t35005, t35006, t35007, t35008))) = some (r1, r2, r3, r4) := H
  have A4 := Aside0.mk A40
  clear A40
  by_cases c5 : t35011 = 0
  · rw [if_pos c5] at H
    have c5b0 : (t35011 == 0) = true := beq_iff_eq.mpr c5
    have c5b1 : (t35011 != 0) = false := bne_eq_false_iff_eq.mpr c5
    clear c5
    obtain ⟨y35013, hy35013⟩ : ∃ y_ : List Int, y_ = (([0, 15, 16] : List Int)) := ⟨_, rfl⟩
    replace H : ((spec_reader_one.f k t35002 t35012 y35013).bind fun bt35016 => ((spec_reader_one.f k t35002 bt35016.2 (([0, 15] : List Int))).bind fun bt35021 => ((spec_reader_one.f k t35002 bt35021.2 (([1, 16, 17] : List Int))).bind fun bt35026 => ((spec_reader_one.f k t35002 bt35026.2 (([1, 16] : List Int))).bind fun bt35031 => (some (bt35016.1, bt35021.1, bt35026.1, bt35031.1)))))) = some (r1, r2, r3, r4) := by first | (rw [hy35013]; with_reducible exact H) | (have H2_ := (Option.bind_some _ _).symm.trans H; rw [hy35013]; with_reducible exact H2_) | (have H2_ := (Option.bind_some _ _).symm.trans H; with_reducible exact H2_) | with_reducible exact H | (rw [hy35013]; exact H) | exact H
    have Ny35013 := Aside0.mk hy35013
    clear hy35013
    replace H := Option.bind_eq_some_iff.mp H
    obtain ⟨⟨t35016, t35017⟩, A60, H⟩ := H
    replace H : ((spec_reader_one.f k t35002 t35017 (([0, 15] : List Int))).bind fun bt35021 => ((spec_reader_one.f k t35002 bt35021.2 (([1, 16, 17] : List Int))).bind fun bt35026 => ((spec_reader_one.f k t35002 bt35026.2 (([1, 16] : List Int))).bind fun bt35031 => (some (t35016, bt35021.1, bt35026.1, bt35031.1))))) = some (r1, r2, r3, r4) := H
    have A6 := Aside0.mk A60
    clear A60
    obtain ⟨y35018, hy35018⟩ : ∃ y_ : List Int, y_ = (([0, 15] : List Int)) := ⟨_, rfl⟩
    replace H : ((spec_reader_one.f k t35002 t35017 y35018).bind fun bt35021 => ((spec_reader_one.f k t35002 bt35021.2 (([1, 16, 17] : List Int))).bind fun bt35026 => ((spec_reader_one.f k t35002 bt35026.2 (([1, 16] : List Int))).bind fun bt35031 => (some (t35016, bt35021.1, bt35026.1, bt35031.1))))) = some (r1, r2, r3, r4) := by first | (rw [hy35018]; with_reducible exact H) | (have H2_ := (Option.bind_some _ _).symm.trans H; rw [hy35018]; with_reducible exact H2_) | (have H2_ := (Option.bind_some _ _).symm.trans H; with_reducible exact H2_) | with_reducible exact H | (rw [hy35018]; exact H) | exact H
    have Ny35018 := Aside0.mk hy35018
    clear hy35018
    replace H := Option.bind_eq_some_iff.mp H
    obtain ⟨⟨t35021, t35022⟩, A70, H⟩ := H
    replace H : ((spec_reader_one.f k t35002 t35022 (([1, 16, 17] : List Int))).bind fun bt35026 => ((spec_reader_one.f k t35002 bt35026.2 (([1, 16] : List Int))).bind fun bt35031 => (some (t35016, t35021, bt35026.1, bt35031.1)))) = some (r1, r2, r3, r4) := H
    have A7 := Aside0.mk A70
    clear A70
    obtain ⟨y35023, hy35023⟩ : ∃ y_ : List Int, y_ = (([1, 16, 17] : List Int)) := ⟨_, rfl⟩
    replace H : ((spec_reader_one.f k t35002 t35022 y35023).bind fun bt35026 => ((spec_reader_one.f k t35002 bt35026.2 (([1, 16] : List Int))).bind fun bt35031 => (some (t35016, t35021, bt35026.1, bt35031.1)))) = some (r1, r2, r3, r4) := by first | (rw [hy35023]; with_reducible exact H) | (have H2_ := (Option.bind_some _ _).symm.trans H; rw [hy35023]; with_reducible exact H2_) | (have H2_ := (Option.bind_some _ _).symm.trans H; with_reducible exact H2_) | with_reducible exact H | (rw [hy35023]; exact H) | exact H
    have Ny35023 := Aside0.mk hy35023
    clear hy35023
    replace H := Option.bind_eq_some_iff.mp H
    obtain ⟨⟨t35026, t35027⟩, A80, H⟩ := H
    replace H : ((spec_reader_one.f k t35002 t35027 (([1, 16] : List Int))).bind fun bt35031 => (some (t35016, t35021, t35026, bt35031.1))) = some (r1, r2, r3, r4) := H
    have A8 := Aside0.mk A80
    clear A80
    obtain ⟨y35028, hy35028⟩ : ∃ y_ : List Int, y_ = (([1, 16] : List Int)) := ⟨_, rfl⟩
    replace H : ((spec_reader_one.f k t35002 t35027 y35028).bind fun bt35031 => (some (t35016, t35021, t35026, bt35031.1))) = some (r1, r2, r3, r4) := by first | (rw [hy35028]; with_reducible exact H) | (have H2_ := (Option.bind_some _ _).symm.trans H; rw [hy35028]; with_reducible exact H2_) | (have H2_ := (Option.bind_some _ _).symm.trans H; with_reducible exact H2_) | with_reducible exact H | (rw [hy35028]; exact H) | exact H
    have Ny35028 := Aside0.mk hy35028
    clear hy35028
    replace H := Option.bind_eq_some_iff.mp H
    obtain ⟨⟨t35031, t35032⟩, A90, H⟩ := H
    replace H : (some (t35016, t35021, t35026, t35031)) = some (r1, r2, r3, r4) := H
    have A9 := Aside0.mk A90
    clear A90
    simp only [Option.some.injEq, Prod.mk.injEq] at H
    obtain ⟨rfl, rfl, rfl, rfl⟩ := H
    go_enter Try.func34, Try.ntmps34
    go_wp2_with (first | ((with_reducible refine gate_dst (N := 2) rfl ?_); refine box_event ?hg (N := 2) ?hd (cs := #[.int .i64 0, .int .i64 0, .int .i64 0, .int .i64 0]) (t := 36) ?hr ?_; (case hd => rfl); (case hg => rfl); (case hr => first | (go_simp; done) | (go_simp; rfl)); intro gb35001 hg w10 hbox hb; have n0_ := Aside0.mk (below_step (by repeat (first | (with_reducible first | exact HB.out | apply below_alloc | apply pw_below_drewN | apply below_drew1) | exact HB.out)) hb); have n1_ := Aside0.mk (hbox); have n2_ := Aside0.mk ((by rw [hg]; exact (below_size (by repeat (first | (with_reducible first | exact HB.out | apply below_alloc | apply pw_below_drewN | apply below_drew1) | exact HB.out))) : w.heap.size ≤ gb35001)); have n3_ := Aside0.mk ((by rw [hg]; exact (below_size (by repeat (first | (with_reducible first | exact HB.out | apply below_alloc | apply pw_below_drewN | apply below_drew1) | exact HB.out))) : w.heap.size ≤ gb35001)); clear HB; have HB := n0_; have BK35001 := n1_; have GW35001 := n2_; have GE35001 := n3_; clear n0_ n1_ n2_ n3_; clear hb hbox hg) | ((with_reducible refine gate_callee (f := 68) rfl ?_); refine goesL_ (some 6) rfl rfl Try.func68 (by kernel_rfl) rfl #[.slice A0 l0.length c0] rfl (by (try simp only [List.map_toArray, List.map_cons, List.map_nil]); first | done | rfl | (simp only [List.length_drop, List.length_take]; rfl)) ?_; (with_reducible refine (spec_newReader.calls _ _ l0 t35002 t35003 w _ ?side1 ?side2 ?side3 A2.out).mono ?_); (case side1 => repeat (first | (with_reducible first | exact HB.out | apply below_alloc | apply pw_below_drewN | apply below_drew1 | refine below_set ?_ GE35001.out) | exact HB.out)); (case side2 => exact HR0.out); (case side3 => exact HC0.out); rintro e w11 ⟨g35004, rfl, hi, hb, hb2⟩; refine ⟨_, rfl, ?_⟩; have n0_ := Aside0.mk (blk_below (g := gb35001) (o := .cells #[.int .i64 0, .int .i64 0, .int .i64 0, .int .i64 0] 36 (0, 0)) (by (with_reducible repeat (first | refine blk_drewN ?_ _ | refine blk_drew ?_ | refine blk_alloc ?_ _)); exact BK35001.out) hb2); have n1_ := Aside0.mk (hb); have n2_ := Aside0.mk (hi); have n3_ := Aside0.mk (IsS88.ne_blk hi (blk_below (g := gb35001) (o := .cells #[.int .i64 0, .int .i64 0, .int .i64 0, .int .i64 0] 36 (0, 0)) (by (with_reducible repeat (first | refine blk_drewN ?_ _ | refine blk_drew ?_ | refine blk_alloc ?_ _)); exact BK35001.out) hb2) (by decide)); have n4_ := Aside0.mk (Ne.symm (IsS88.ne_blk hi (blk_below (g := gb35001) (o := .cells #[.int .i64 0, .int .i64 0, .int .i64 0, .int .i64 0] 36 (0, 0)) (by (with_reducible repeat (first | refine blk_drewN ?_ _ | refine blk_drew ?_ | refine blk_alloc ?_ _)); exact BK35001.out) hb2) (by decide))); clear BK35001; clear HB; have BK35001 := n0_; have HB := n1_; have HI35004 := n2_; have NB35004_35001 := n3_; have NB35001_35004 := n4_; clear n0_ n1_ n2_ n3_ n4_; (try clear hb); (try clear hb2); (try clear hk); (try clear hi)) | ((with_reducible refine gate_callee (f := 69) rfl ?_); refine goesL_ (some 8) rfl rfl Try.func69 (by kernel_rfl) rfl #[.pointer (some ⟨g35004, 0, none⟩)] rfl (by (try simp only [List.map_toArray, List.map_cons, List.map_nil]); first | done | rfl | (simp only [List.length_drop, List.length_take]; rfl)) ?_; (with_reducible refine (spec_anyBox.calls k g35004 t35002 t35003 t35005 t35006 t35007 t35008 t35009 w _ ?side1 ?side2 A3.out).mono ?_); (case side1 => repeat (first | (with_reducible first | exact HI35004.out | apply IsS88.alloc | apply IsS88.drewN | apply IsS88.drew | apply IsS88.set_1 | refine IsS88.far ?_ NB35004_35001.out _) | exact HI35004.out)); (case side2 => repeat (first | (with_reducible first | exact HB.out | apply below_alloc | apply pw_below_drewN | apply below_drew1 | refine below_set ?_ (IsS88.ge HI35004.out) | refine below_set ?_ GE35001.out) | exact HB.out)); rintro e w12 ⟨rfl, hi, hb, hk⟩; refine ⟨_, rfl, ?_⟩; have n0_ := Aside0.mk (KeepBut.blk hk (g' := gb35001) (o := .cells #[.int .i64 0, .int .i64 0, .int .i64 0, .int .i64 0] 36 (0, 0)) (by (with_reducible repeat (first | refine blk_drewN ?_ _ | refine blk_drew ?_ | refine blk_alloc ?_ _)); exact BK35001.out) NB35001_35004.out (by simp)); have n1_ := Aside0.mk (hb); have n2_ := Aside0.mk (hi); clear BK35001; clear HB; clear HI35004; have BK35001 := n0_; have HB := n1_; have HI35004 := n2_; clear n0_ n1_ n2_; (try clear hb); (try clear hb2); (try clear hk); (try clear hi)) | ((with_reducible refine gate_dst (N := 4) rfl ?_); refine box_event ?hg (N := 4) ?hd (cs := #[.int .i64 0, .int .i64 0, .int .i64 0, .int .i64 0]) (t := 36) ?hr ?_; (case hd => rfl); (case hg => rfl); (case hr => first | (go_simp; done) | (go_simp; rfl)); intro gb35010 hg w13 hbox hb; have n0_ := Aside0.mk (blk_below (g := gb35001) (o := .cells #[.int .i64 0, .int .i64 0, .int .i64 0, .int .i64 0] 36 (0, 0)) (by (with_reducible repeat (first | refine blk_drewN ?_ _ | refine blk_drew ?_ | refine blk_alloc ?_ _)); exact BK35001.out) hb); have n1_ := Aside0.mk (IsS88.below (by repeat (first | (with_reducible first | exact HI35004.out | apply IsS88.alloc | apply IsS88.drewN | apply IsS88.drew | apply IsS88.set_1 | refine IsS88.far ?_ NB35004_35001.out _) | exact HI35004.out)) hb); have n2_ := Aside0.mk (below_step (by repeat (first | (with_reducible first | exact HB.out | apply below_alloc | apply pw_below_drewN | apply below_drew1 | refine below_set ?_ (IsS88.ge HI35004.out) | refine below_set ?_ GE35001.out) | exact HB.out)) hb); have n3_ := Aside0.mk (hbox); have n4_ := Aside0.mk ((by rw [hg]; exact (below_size (by repeat (first | (with_reducible first | exact HB.out | apply below_alloc | apply pw_below_drewN | apply below_drew1 | refine below_set ?_ (IsS88.ge HI35004.out) | refine below_set ?_ GE35001.out) | exact HB.out))) : w.heap.size ≤ gb35010)); have n5_ := Aside0.mk ((by rw [hg]; exact (below_size (by repeat (first | (with_reducible first | exact HB.out | apply below_alloc | apply pw_below_drewN | apply below_drew1 | refine below_set ?_ (IsS88.ge HI35004.out) | refine below_set ?_ GE35001.out) | exact HB.out))) : w.heap.size ≤ gb35010)); have n6_ := Aside0.mk ((by rw [hg]; exact Nat.ne_of_lt (blk_lt (g := gb35001) (o := .cells #[.int .i64 0, .int .i64 0, .int .i64 0, .int .i64 0] 36 (0, 0)) (by (with_reducible repeat (first | refine blk_drewN ?_ _ | refine blk_drew ?_ | refine blk_alloc ?_ _)); exact BK35001.out)) : gb35001 ≠ gb35010)); have n7_ := Aside0.mk ((by rw [hg]; exact Nat.ne_of_gt (blk_lt (g := gb35001) (o := .cells #[.int .i64 0, .int .i64 0, .int .i64 0, .int .i64 0] 36 (0, 0)) (by (with_reducible repeat (first | refine blk_drewN ?_ _ | refine blk_drew ?_ | refine blk_alloc ?_ _)); exact BK35001.out)) : gb35010 ≠ gb35001)); have n8_ := Aside0.mk ((by rw [hg]; exact Nat.ne_of_lt (IsS88.lt (show IsS88 w _ g35004 t35002 t35009 from by repeat (first | (with_reducible first | exact HI35004.out | apply IsS88.alloc | apply IsS88.drewN | apply IsS88.drew | apply IsS88.set_1 | refine IsS88.far ?_ NB35004_35001.out _) | exact HI35004.out))) : g35004 ≠ gb35010)); have n9_ := Aside0.mk ((by rw [hg]; exact Nat.ne_of_gt (IsS88.lt (show IsS88 w _ g35004 t35002 t35009 from by repeat (first | (with_reducible first | exact HI35004.out | apply IsS88.alloc | apply IsS88.drewN | apply IsS88.drew | apply IsS88.set_1 | refine IsS88.far ?_ NB35004_35001.out _) | exact HI35004.out))) : gb35010 ≠ g35004)); clear BK35001; clear HI35004; clear HB; have BK35001 := n0_; have HI35004 := n1_; have HB := n2_; have BK35010 := n3_; have GW35010 := n4_; have GE35010 := n5_; have NB35001_35010 := n6_; have NB35010_35001 := n7_; have NB35004_35010 := n8_; have NB35010_35004 := n9_; clear n0_ n1_ n2_ n3_ n4_ n5_ n6_ n7_ n8_ n9_; clear hb hbox hg; have hnb14 := NB35010_35001.out; have hnc14 := NB35001_35010.out; have hnb15 := NB35010_35004.out; have hnc15 := NB35004_35010.out; have hcz16_0 : w13.cell? ⟨gb35010, 0, none⟩ = some (.int .i64 0) := (blk_cell BK35010.out 0).trans rfl; have hcz16_1 : w13.cell? ⟨gb35010, 1, none⟩ = some (.int .i64 0) := (blk_cell BK35010.out 1).trans rfl; have hcz16_2 : w13.cell? ⟨gb35010, 2, none⟩ = some (.int .i64 0) := (blk_cell BK35010.out 2).trans rfl; have hcz16_3 : w13.cell? ⟨gb35010, 3, none⟩ = some (.int .i64 0) := (blk_cell BK35010.out 3).trans rfl; have hfz16_0 := blk_frozen BK35010.out 0; have hfz16_1 := blk_frozen BK35010.out 1; have hfz16_2 := blk_frozen BK35010.out 2; have hfz16_3 := blk_frozen BK35010.out 3) | ((with_reducible refine gate_callee (f := 70) rfl ?_); refine goesL_ (some 10) rfl rfl Try.func70 (by kernel_rfl) rfl #[.pointer (some ⟨g35004, 0, none⟩), .int .i64 8] rfl (by (try simp only [List.map_toArray, List.map_cons, List.map_nil]); first | done | rfl | (simp only [List.length_drop, List.length_take]; rfl)) ?_; (with_reducible refine (spec_reader_pick.calls k g35004 t35002 t35009 8 t35011 t35012 w _ ?side1 ?side2 A4.out).mono ?_); (case side1 => repeat (first | (with_reducible first | exact HI35004.out | apply IsS88.alloc | apply IsS88.drewN | apply IsS88.drew | apply IsS88.set_1 | refine IsS88.far ?_ NB35004_35001.out _ | refine IsS88.far ?_ NB35004_35010.out _) | exact HI35004.out)); (case side2 => repeat (first | (with_reducible first | exact HB.out | apply below_alloc | apply pw_below_drewN | apply below_drew1 | refine below_set ?_ (IsS88.ge HI35004.out) | refine below_set ?_ GE35001.out | refine below_set ?_ GE35010.out) | exact HB.out)); rintro e w17 ⟨rfl, hi, hb, hk⟩; refine ⟨_, rfl, ?_⟩; have n0_ := Aside0.mk (KeepBut.blk hk (g' := gb35001) (o := .cells #[.int .i64 0, .int .i64 0, .int .i64 0, .int .i64 0] 36 (0, 0)) (by (with_reducible repeat (first | refine blk_drewN ?_ _ | refine blk_drew ?_ | refine blk_alloc ?_ _)); refine blk_far ?_ NB35001_35010.out _; (with_reducible repeat (first | refine blk_drewN ?_ _ | refine blk_drew ?_ | refine blk_alloc ?_ _)); refine blk_far ?_ NB35001_35010.out _; (with_reducible repeat (first | refine blk_drewN ?_ _ | refine blk_drew ?_ | refine blk_alloc ?_ _)); refine blk_far ?_ NB35001_35010.out _; (with_reducible repeat (first | refine blk_drewN ?_ _ | refine blk_drew ?_ | refine blk_alloc ?_ _)); refine blk_far ?_ NB35001_35010.out _; (with_reducible repeat (first | refine blk_drewN ?_ _ | refine blk_drew ?_ | refine blk_alloc ?_ _)); exact BK35001.out) NB35001_35004.out (by simp)); have n1_ := Aside0.mk (KeepBut.blk hk (g' := gb35010) (o := .cells #[.int .i64 t35005, .int .i64 t35006, .int .i64 t35007, .int .i64 t35008] 36 (0, 0)) (by (with_reducible repeat (first | refine blk_drewN ?_ _ | refine blk_drew ?_ | refine blk_alloc ?_ _)); refine blk_put (cs := #[.int .i64 t35005, .int .i64 t35006, .int .i64 t35007, .int .i64 0]) ?_ 3 _ rfl; (with_reducible repeat (first | refine blk_drewN ?_ _ | refine blk_drew ?_ | refine blk_alloc ?_ _)); refine blk_put (cs := #[.int .i64 t35005, .int .i64 t35006, .int .i64 0, .int .i64 0]) ?_ 2 _ rfl; (with_reducible repeat (first | refine blk_drewN ?_ _ | refine blk_drew ?_ | refine blk_alloc ?_ _)); refine blk_put (cs := #[.int .i64 t35005, .int .i64 0, .int .i64 0, .int .i64 0]) ?_ 1 _ rfl; (with_reducible repeat (first | refine blk_drewN ?_ _ | refine blk_drew ?_ | refine blk_alloc ?_ _)); refine blk_put (cs := #[.int .i64 0, .int .i64 0, .int .i64 0, .int .i64 0]) ?_ 0 _ rfl; (with_reducible repeat (first | refine blk_drewN ?_ _ | refine blk_drew ?_ | refine blk_alloc ?_ _)); exact BK35010.out) NB35010_35004.out (by simp)); have n2_ := Aside0.mk (hb); have n3_ := Aside0.mk (hi); clear BK35001; clear BK35010; clear HB; clear HI35004; have BK35001 := n0_; have BK35010 := n1_; have HB := n2_; have HI35004 := n3_; clear n0_ n1_ n2_ n3_; (try clear hb); (try clear hb2); (try clear hk); (try clear hi)) | ((with_reducible refine gate_dst (N := 13) rfl ?_); refine Kd.R_lit (Kd.int .i64) _ 3 ?hg (N := 13) ?hd (xs := ([0, 15, 16] : List Int)) (inner := [.int .i64 0, .int .i64 15, .int .i64 16]) (ok := fun _ => True) (okp := fun _ => True) ?hr ?hp (fun _ hk => hk) trivial (Below.refl _ _) (Nat.le_refl _) (by simp) ?_; (case hd => rfl); (case hg => rfl); (case hr => first | (go_simp; done) | (go_simp; rfl)); (case hp => exact (Reps.one (show Kd.M (Kd.int .i64) _ _ _ 0 [.int .i64 0] from rfl) (Reps.one (show Kd.M (Kd.int .i64) _ _ _ 15 [.int .i64 15] from rfl) (Reps.one (show Kd.M (Kd.int .i64) _ _ _ 16 [.int .i64 16] from rfl) (Reps.none _ _))))); intro v35014 w18 ho19 hb hg_ hnew_; clear hg_ hnew_; (first | rw [← Ny35013.out] at ho19 | (simp only [Int.reduceToNat] at ho19; rw [← Ny35013.out] at ho19)); have n0_ := Aside0.mk (Kd.R_lower ho19 (below_size (by repeat (first | (with_reducible first | exact HB.out | apply below_alloc | apply pw_below_drewN | apply below_drew1 | refine below_set ?_ (IsS88.ge HI35004.out) | refine below_set ?_ GE35001.out | refine below_set ?_ GE35010.out) | exact HB.out)))); have n1_ := Aside0.mk (blk_below (g := gb35001) (o := .cells #[.int .i64 0, .int .i64 0, .int .i64 0, .int .i64 0] 36 (0, 0)) (by (with_reducible repeat (first | refine blk_drewN ?_ _ | refine blk_drew ?_ | refine blk_alloc ?_ _)); exact BK35001.out) hb); have n2_ := Aside0.mk (IsS88.below (by repeat (first | (with_reducible first | exact HI35004.out | apply IsS88.alloc | apply IsS88.drewN | apply IsS88.drew | apply IsS88.set_1 | refine IsS88.far ?_ NB35004_35001.out _ | refine IsS88.far ?_ NB35004_35010.out _) | exact HI35004.out)) hb); have n3_ := Aside0.mk (blk_below (g := gb35010) (o := .cells #[.int .i64 t35005, .int .i64 t35006, .int .i64 t35007, .int .i64 t35008] 36 (0, 0)) (by (with_reducible repeat (first | refine blk_drewN ?_ _ | refine blk_drew ?_ | refine blk_alloc ?_ _)); exact BK35010.out) hb); have n4_ := Aside0.mk (below_step (by repeat (first | (with_reducible first | exact HB.out | apply below_alloc | apply pw_below_drewN | apply below_drew1 | refine below_set ?_ (IsS88.ge HI35004.out) | refine below_set ?_ GE35001.out | refine below_set ?_ GE35010.out) | exact HB.out)) hb); clear BK35001; clear HI35004; clear BK35010; clear HB; have HO35015 := n0_; have BK35001 := n1_; have HI35004 := n2_; have BK35010 := n3_; have HB := n4_; clear n0_ n1_ n2_ n3_ n4_; clear hb ho19; obtain ⟨Ao20, co20, eo20⟩ := Kd.R_slice HO35015.out; subst eo20) | ((with_reducible refine gate_callee (f := 71) rfl ?_); refine goesL_ (some 14) rfl rfl Try.func71 (by kernel_rfl) rfl #[.pointer (some ⟨g35004, 0, none⟩), .slice Ao20 y35013.length co20] rfl (by (try simp only [List.map_toArray, List.map_cons, List.map_nil]); first | done | rfl | (simp only [List.length_drop, List.length_take]; rfl)) ?_; (with_reducible refine (spec_reader_one.calls k g35004 t35002 t35012 _ _ y35013 t35016 t35017 w _ ?side1 ?side2 ?side3 ?side4 ?side5 A6.out).mono ?_); (case side1 => repeat (first | (with_reducible first | exact HI35004.out | apply IsS88.alloc | apply IsS88.drewN | apply IsS88.drew | apply IsS88.set_1 | refine IsS88.far ?_ NB35004_35001.out _ | refine IsS88.far ?_ NB35004_35010.out _) | exact HI35004.out)); (case side2 => repeat (first | (with_reducible first | exact HB.out | apply below_alloc | apply pw_below_drewN | apply below_drew1 | refine below_set ?_ (IsS88.ge HI35004.out) | refine below_set ?_ GE35001.out | refine below_set ?_ GE35010.out) | exact HB.out)); (case side3 => repeat (first | exact (Kd.R_reads' HO35015.out).2.2 | (with_reducible refine Kd.C_alloc ?_ _) | (with_reducible refine Kd.C_drewN ?_ _) | (with_reducible refine Kd.C_drew ?_))); (case side4 => exact (Kd.R_reads' HO35015.out).2.1); (case side5 => exact far_slice (IsS88.own_ne HI35004.out HO35015.out (by decide))); rintro e w21 ⟨rfl, hi, hb, hk⟩; refine ⟨_, rfl, ?_⟩; have n0_ := Aside0.mk (KeepBut.blk hk (g' := gb35001) (o := .cells #[.int .i64 0, .int .i64 0, .int .i64 0, .int .i64 0] 36 (0, 0)) (by (with_reducible repeat (first | refine blk_drewN ?_ _ | refine blk_drew ?_ | refine blk_alloc ?_ _)); exact BK35001.out) NB35001_35004.out (by simp)); have n1_ := Aside0.mk (KeepBut.blk hk (g' := gb35010) (o := .cells #[.int .i64 t35005, .int .i64 t35006, .int .i64 t35007, .int .i64 t35008] 36 (0, 0)) (by (with_reducible repeat (first | refine blk_drewN ?_ _ | refine blk_drew ?_ | refine blk_alloc ?_ _)); exact BK35010.out) NB35010_35004.out (by simp)); have n2_ := Aside0.mk (Kd.R_mono (Kd.R_keep (IsS88.apart (show IsS88 w _ g35004 t35002 t35012 from by repeat (first | (with_reducible first | exact HI35004.out | apply IsS88.alloc | apply IsS88.drewN | apply IsS88.drew | apply IsS88.set_1 | refine IsS88.far ?_ NB35004_35001.out _ | refine IsS88.far ?_ NB35004_35010.out _) | exact HI35004.out)) (by (with_reducible repeat (first | apply Kd.R_alloc | apply Kd.R_drewN | apply Kd.R_drew)); exact HO35015.out) (by decide)) hk (fun _ h => h.2)) (fun _ h => h.1)); have n3_ := Aside0.mk (hb); have n4_ := Aside0.mk (hi); clear BK35001; clear BK35010; clear HO35015; clear HB; clear HI35004; have BK35001 := n0_; have BK35010 := n1_; have HO35015 := n2_; have HB := n3_; have HI35004 := n4_; clear n0_ n1_ n2_ n3_ n4_; (try clear hb); (try clear hb2); (try clear hk); (try clear hi)) | ((with_reducible refine gate_dst (N := 16) rfl ?_); refine Kd.R_lit (Kd.int .i64) _ 3 ?hg (N := 16) ?hd (xs := ([0, 15] : List Int)) (inner := [.int .i64 0, .int .i64 15]) (ok := fun _ => True) (okp := fun _ => True) ?hr ?hp (fun _ hk => hk) trivial (Below.refl _ _) (Nat.le_refl _) (by simp) ?_; (case hd => rfl); (case hg => rfl); (case hr => first | (go_simp; done) | (go_simp; rfl)); (case hp => exact (Reps.one (show Kd.M (Kd.int .i64) _ _ _ 0 [.int .i64 0] from rfl) (Reps.one (show Kd.M (Kd.int .i64) _ _ _ 15 [.int .i64 15] from rfl) (Reps.none _ _)))); intro v35019 w22 ho23 hb hg_ hnew_; clear hg_ hnew_; (first | rw [← Ny35018.out] at ho23 | (simp only [Int.reduceToNat] at ho23; rw [← Ny35018.out] at ho23)); have n0_ := Aside0.mk (Kd.R_elder' (by (with_reducible repeat (first | apply Kd.R_alloc | apply Kd.R_drewN | apply Kd.R_drew)); exact HO35015.out) (Kd.R_base ho23) hb); have n1_ := Aside0.mk (Kd.R_lower (Kd.R_new' ho23 (Kd.R_lt (by (with_reducible repeat (first | apply Kd.R_alloc | apply Kd.R_drewN | apply Kd.R_drew)); exact HO35015.out))) (below_size (by repeat (first | (with_reducible first | exact HB.out | apply below_alloc | apply pw_below_drewN | apply below_drew1 | refine below_set ?_ (IsS88.ge HI35004.out) | refine below_set ?_ GE35001.out | refine below_set ?_ GE35010.out) | exact HB.out)))); have n2_ := Aside0.mk (blk_below (g := gb35001) (o := .cells #[.int .i64 0, .int .i64 0, .int .i64 0, .int .i64 0] 36 (0, 0)) (by (with_reducible repeat (first | refine blk_drewN ?_ _ | refine blk_drew ?_ | refine blk_alloc ?_ _)); exact BK35001.out) hb); have n3_ := Aside0.mk (IsS88.below (by repeat (first | (with_reducible first | exact HI35004.out | apply IsS88.alloc | apply IsS88.drewN | apply IsS88.drew | apply IsS88.set_1 | refine IsS88.far ?_ NB35004_35001.out _ | refine IsS88.far ?_ NB35004_35010.out _) | exact HI35004.out)) hb); have n4_ := Aside0.mk (blk_below (g := gb35010) (o := .cells #[.int .i64 t35005, .int .i64 t35006, .int .i64 t35007, .int .i64 t35008] 36 (0, 0)) (by (with_reducible repeat (first | refine blk_drewN ?_ _ | refine blk_drew ?_ | refine blk_alloc ?_ _)); exact BK35010.out) hb); have n5_ := Aside0.mk (below_step (by repeat (first | (with_reducible first | exact HB.out | apply below_alloc | apply pw_below_drewN | apply below_drew1 | refine below_set ?_ (IsS88.ge HI35004.out) | refine below_set ?_ GE35001.out | refine below_set ?_ GE35010.out) | exact HB.out)) hb); clear HO35015; clear BK35001; clear HI35004; clear BK35010; clear HB; have HO35015 := n0_; have HO35020 := n1_; have BK35001 := n2_; have HI35004 := n3_; have BK35010 := n4_; have HB := n5_; clear n0_ n1_ n2_ n3_ n4_ n5_; clear hb ho23; obtain ⟨Ao24, co24, eo24⟩ := Kd.R_slice HO35020.out; subst eo24) | ((with_reducible refine gate_callee (f := 71) rfl ?_); refine goesL_ (some 17) rfl rfl Try.func71 (by kernel_rfl) rfl #[.pointer (some ⟨g35004, 0, none⟩), .slice Ao24 y35018.length co24] rfl (by (try simp only [List.map_toArray, List.map_cons, List.map_nil]); first | done | rfl | (simp only [List.length_drop, List.length_take]; rfl)) ?_; (with_reducible refine (spec_reader_one.calls k g35004 t35002 t35017 _ _ y35018 t35021 t35022 w _ ?side1 ?side2 ?side3 ?side4 ?side5 A7.out).mono ?_); (case side1 => repeat (first | (with_reducible first | exact HI35004.out | apply IsS88.alloc | apply IsS88.drewN | apply IsS88.drew | apply IsS88.set_1 | refine IsS88.far ?_ NB35004_35001.out _ | refine IsS88.far ?_ NB35004_35010.out _) | exact HI35004.out)); (case side2 => repeat (first | (with_reducible first | exact HB.out | apply below_alloc | apply pw_below_drewN | apply below_drew1 | refine below_set ?_ (IsS88.ge HI35004.out) | refine below_set ?_ GE35001.out | refine below_set ?_ GE35010.out) | exact HB.out)); (case side3 => repeat (first | exact (Kd.R_reads' HO35020.out).2.2 | (with_reducible refine Kd.C_alloc ?_ _) | (with_reducible refine Kd.C_drewN ?_ _) | (with_reducible refine Kd.C_drew ?_))); (case side4 => exact (Kd.R_reads' HO35020.out).2.1); (case side5 => exact far_slice (IsS88.own_ne HI35004.out HO35020.out (by decide))); rintro e w25 ⟨rfl, hi, hb, hk⟩; refine ⟨_, rfl, ?_⟩; have n0_ := Aside0.mk (KeepBut.blk hk (g' := gb35001) (o := .cells #[.int .i64 0, .int .i64 0, .int .i64 0, .int .i64 0] 36 (0, 0)) (by (with_reducible repeat (first | refine blk_drewN ?_ _ | refine blk_drew ?_ | refine blk_alloc ?_ _)); exact BK35001.out) NB35001_35004.out (by simp)); have n1_ := Aside0.mk (KeepBut.blk hk (g' := gb35010) (o := .cells #[.int .i64 t35005, .int .i64 t35006, .int .i64 t35007, .int .i64 t35008] 36 (0, 0)) (by (with_reducible repeat (first | refine blk_drewN ?_ _ | refine blk_drew ?_ | refine blk_alloc ?_ _)); exact BK35010.out) NB35010_35004.out (by simp)); have n2_ := Aside0.mk (Kd.R_mono (Kd.R_keep (IsS88.apart (show IsS88 w _ g35004 t35002 t35017 from by repeat (first | (with_reducible first | exact HI35004.out | apply IsS88.alloc | apply IsS88.drewN | apply IsS88.drew | apply IsS88.set_1 | refine IsS88.far ?_ NB35004_35001.out _ | refine IsS88.far ?_ NB35004_35010.out _) | exact HI35004.out)) (by (with_reducible repeat (first | apply Kd.R_alloc | apply Kd.R_drewN | apply Kd.R_drew)); exact HO35015.out) (by decide)) hk (fun _ h => h.2)) (fun _ h => h.1)); have n3_ := Aside0.mk (Kd.R_mono (Kd.R_keep (IsS88.apart (show IsS88 w _ g35004 t35002 t35017 from by repeat (first | (with_reducible first | exact HI35004.out | apply IsS88.alloc | apply IsS88.drewN | apply IsS88.drew | apply IsS88.set_1 | refine IsS88.far ?_ NB35004_35001.out _ | refine IsS88.far ?_ NB35004_35010.out _) | exact HI35004.out)) (by (with_reducible repeat (first | apply Kd.R_alloc | apply Kd.R_drewN | apply Kd.R_drew)); exact HO35020.out) (by decide)) hk (fun _ h => h.2)) (fun _ h => h.1)); have n4_ := Aside0.mk (hb); have n5_ := Aside0.mk (hi); clear BK35001; clear BK35010; clear HO35015; clear HO35020; clear HB; clear HI35004; have BK35001 := n0_; have BK35010 := n1_; have HO35015 := n2_; have HO35020 := n3_; have HB := n4_; have HI35004 := n5_; clear n0_ n1_ n2_ n3_ n4_ n5_; (try clear hb); (try clear hb2); (try clear hk); (try clear hi)) | ((with_reducible refine gate_dst (N := 19) rfl ?_); refine Kd.R_lit (Kd.int .i64) _ 3 ?hg (N := 19) ?hd (xs := ([1, 16, 17] : List Int)) (inner := [.int .i64 1, .int .i64 16, .int .i64 17]) (ok := fun _ => True) (okp := fun _ => True) ?hr ?hp (fun _ hk => hk) trivial (Below.refl _ _) (Nat.le_refl _) (by simp) ?_; (case hd => rfl); (case hg => rfl); (case hr => first | (go_simp; done) | (go_simp; rfl)); (case hp => exact (Reps.one (show Kd.M (Kd.int .i64) _ _ _ 1 [.int .i64 1] from rfl) (Reps.one (show Kd.M (Kd.int .i64) _ _ _ 16 [.int .i64 16] from rfl) (Reps.one (show Kd.M (Kd.int .i64) _ _ _ 17 [.int .i64 17] from rfl) (Reps.none _ _))))); intro v35024 w26 ho27 hb hg_ hnew_; clear hg_ hnew_; (first | rw [← Ny35023.out] at ho27 | (simp only [Int.reduceToNat] at ho27; rw [← Ny35023.out] at ho27)); have n0_ := Aside0.mk (Kd.R_elder' (by (with_reducible repeat (first | apply Kd.R_alloc | apply Kd.R_drewN | apply Kd.R_drew)); exact HO35015.out) (Kd.R_base ho27) hb); have n1_ := Aside0.mk (Kd.R_elder' (by (with_reducible repeat (first | apply Kd.R_alloc | apply Kd.R_drewN | apply Kd.R_drew)); exact HO35020.out) (Kd.R_base ho27) hb); have n2_ := Aside0.mk (Kd.R_lower (Kd.R_new' (Kd.R_new' ho27 (Kd.R_lt (by (with_reducible repeat (first | apply Kd.R_alloc | apply Kd.R_drewN | apply Kd.R_drew)); exact HO35015.out))) (Kd.R_lt (by (with_reducible repeat (first | apply Kd.R_alloc | apply Kd.R_drewN | apply Kd.R_drew)); exact HO35020.out))) (below_size (by repeat (first | (with_reducible first | exact HB.out | apply below_alloc | apply pw_below_drewN | apply below_drew1 | refine below_set ?_ (IsS88.ge HI35004.out) | refine below_set ?_ GE35001.out | refine below_set ?_ GE35010.out) | exact HB.out)))); have n3_ := Aside0.mk (blk_below (g := gb35001) (o := .cells #[.int .i64 0, .int .i64 0, .int .i64 0, .int .i64 0] 36 (0, 0)) (by (with_reducible repeat (first | refine blk_drewN ?_ _ | refine blk_drew ?_ | refine blk_alloc ?_ _)); exact BK35001.out) hb); have n4_ := Aside0.mk (IsS88.below (by repeat (first | (with_reducible first | exact HI35004.out | apply IsS88.alloc | apply IsS88.drewN | apply IsS88.drew | apply IsS88.set_1 | refine IsS88.far ?_ NB35004_35001.out _ | refine IsS88.far ?_ NB35004_35010.out _) | exact HI35004.out)) hb); have n5_ := Aside0.mk (blk_below (g := gb35010) (o := .cells #[.int .i64 t35005, .int .i64 t35006, .int .i64 t35007, .int .i64 t35008] 36 (0, 0)) (by (with_reducible repeat (first | refine blk_drewN ?_ _ | refine blk_drew ?_ | refine blk_alloc ?_ _)); exact BK35010.out) hb); have n6_ := Aside0.mk (below_step (by repeat (first | (with_reducible first | exact HB.out | apply below_alloc | apply pw_below_drewN | apply below_drew1 | refine below_set ?_ (IsS88.ge HI35004.out) | refine below_set ?_ GE35001.out | refine below_set ?_ GE35010.out) | exact HB.out)) hb); clear HO35015; clear HO35020; clear BK35001; clear HI35004; clear BK35010; clear HB; have HO35015 := n0_; have HO35020 := n1_; have HO35025 := n2_; have BK35001 := n3_; have HI35004 := n4_; have BK35010 := n5_; have HB := n6_; clear n0_ n1_ n2_ n3_ n4_ n5_ n6_; clear hb ho27; obtain ⟨Ao28, co28, eo28⟩ := Kd.R_slice HO35025.out; subst eo28) | ((with_reducible refine gate_callee (f := 71) rfl ?_); refine goesL_ (some 20) rfl rfl Try.func71 (by kernel_rfl) rfl #[.pointer (some ⟨g35004, 0, none⟩), .slice Ao28 y35023.length co28] rfl (by (try simp only [List.map_toArray, List.map_cons, List.map_nil]); first | done | rfl | (simp only [List.length_drop, List.length_take]; rfl)) ?_; (with_reducible refine (spec_reader_one.calls k g35004 t35002 t35022 _ _ y35023 t35026 t35027 w _ ?side1 ?side2 ?side3 ?side4 ?side5 A8.out).mono ?_); (case side1 => repeat (first | (with_reducible first | exact HI35004.out | apply IsS88.alloc | apply IsS88.drewN | apply IsS88.drew | apply IsS88.set_1 | refine IsS88.far ?_ NB35004_35001.out _ | refine IsS88.far ?_ NB35004_35010.out _) | exact HI35004.out)); (case side2 => repeat (first | (with_reducible first | exact HB.out | apply below_alloc | apply pw_below_drewN | apply below_drew1 | refine below_set ?_ (IsS88.ge HI35004.out) | refine below_set ?_ GE35001.out | refine below_set ?_ GE35010.out) | exact HB.out)); (case side3 => repeat (first | exact (Kd.R_reads' HO35025.out).2.2 | (with_reducible refine Kd.C_alloc ?_ _) | (with_reducible refine Kd.C_drewN ?_ _) | (with_reducible refine Kd.C_drew ?_))); (case side4 => exact (Kd.R_reads' HO35025.out).2.1); (case side5 => exact far_slice (IsS88.own_ne HI35004.out HO35025.out (by decide))); rintro e w29 ⟨rfl, hi, hb, hk⟩; refine ⟨_, rfl, ?_⟩; have n0_ := Aside0.mk (KeepBut.blk hk (g' := gb35001) (o := .cells #[.int .i64 0, .int .i64 0, .int .i64 0, .int .i64 0] 36 (0, 0)) (by (with_reducible repeat (first | refine blk_drewN ?_ _ | refine blk_drew ?_ | refine blk_alloc ?_ _)); exact BK35001.out) NB35001_35004.out (by simp)); have n1_ := Aside0.mk (KeepBut.blk hk (g' := gb35010) (o := .cells #[.int .i64 t35005, .int .i64 t35006, .int .i64 t35007, .int .i64 t35008] 36 (0, 0)) (by (with_reducible repeat (first | refine blk_drewN ?_ _ | refine blk_drew ?_ | refine blk_alloc ?_ _)); exact BK35010.out) NB35010_35004.out (by simp)); have n2_ := Aside0.mk (Kd.R_mono (Kd.R_keep (IsS88.apart (show IsS88 w _ g35004 t35002 t35022 from by repeat (first | (with_reducible first | exact HI35004.out | apply IsS88.alloc | apply IsS88.drewN | apply IsS88.drew | apply IsS88.set_1 | refine IsS88.far ?_ NB35004_35001.out _ | refine IsS88.far ?_ NB35004_35010.out _) | exact HI35004.out)) (by (with_reducible repeat (first | apply Kd.R_alloc | apply Kd.R_drewN | apply Kd.R_drew)); exact HO35015.out) (by decide)) hk (fun _ h => h.2)) (fun _ h => h.1)); have n3_ := Aside0.mk (Kd.R_mono (Kd.R_keep (IsS88.apart (show IsS88 w _ g35004 t35002 t35022 from by repeat (first | (with_reducible first | exact HI35004.out | apply IsS88.alloc | apply IsS88.drewN | apply IsS88.drew | apply IsS88.set_1 | refine IsS88.far ?_ NB35004_35001.out _ | refine IsS88.far ?_ NB35004_35010.out _) | exact HI35004.out)) (by (with_reducible repeat (first | apply Kd.R_alloc | apply Kd.R_drewN | apply Kd.R_drew)); exact HO35020.out) (by decide)) hk (fun _ h => h.2)) (fun _ h => h.1)); have n4_ := Aside0.mk (Kd.R_mono (Kd.R_keep (IsS88.apart (show IsS88 w _ g35004 t35002 t35022 from by repeat (first | (with_reducible first | exact HI35004.out | apply IsS88.alloc | apply IsS88.drewN | apply IsS88.drew | apply IsS88.set_1 | refine IsS88.far ?_ NB35004_35001.out _ | refine IsS88.far ?_ NB35004_35010.out _) | exact HI35004.out)) (by (with_reducible repeat (first | apply Kd.R_alloc | apply Kd.R_drewN | apply Kd.R_drew)); exact HO35025.out) (by decide)) hk (fun _ h => h.2)) (fun _ h => h.1)); have n5_ := Aside0.mk (hb); have n6_ := Aside0.mk (hi); clear BK35001; clear BK35010; clear HO35015; clear HO35020; clear HO35025; clear HB; clear HI35004; have BK35001 := n0_; have BK35010 := n1_; have HO35015 := n2_; have HO35020 := n3_; have HO35025 := n4_; have HB := n5_; have HI35004 := n6_; clear n0_ n1_ n2_ n3_ n4_ n5_ n6_; (try clear hb); (try clear hb2); (try clear hk); (try clear hi)) | ((with_reducible refine gate_dst (N := 22) rfl ?_); refine Kd.R_lit (Kd.int .i64) _ 3 ?hg (N := 22) ?hd (xs := ([1, 16] : List Int)) (inner := [.int .i64 1, .int .i64 16]) (ok := fun _ => True) (okp := fun _ => True) ?hr ?hp (fun _ hk => hk) trivial (Below.refl _ _) (Nat.le_refl _) (by simp) ?_; (case hd => rfl); (case hg => rfl); (case hr => first | (go_simp; done) | (go_simp; rfl)); (case hp => exact (Reps.one (show Kd.M (Kd.int .i64) _ _ _ 1 [.int .i64 1] from rfl) (Reps.one (show Kd.M (Kd.int .i64) _ _ _ 16 [.int .i64 16] from rfl) (Reps.none _ _)))); intro v35029 w30 ho31 hb hg_ hnew_; clear hg_ hnew_; (first | rw [← Ny35028.out] at ho31 | (simp only [Int.reduceToNat] at ho31; rw [← Ny35028.out] at ho31)); have n0_ := Aside0.mk (Kd.R_elder' (by (with_reducible repeat (first | apply Kd.R_alloc | apply Kd.R_drewN | apply Kd.R_drew)); exact HO35015.out) (Kd.R_base ho31) hb); have n1_ := Aside0.mk (Kd.R_elder' (by (with_reducible repeat (first | apply Kd.R_alloc | apply Kd.R_drewN | apply Kd.R_drew)); exact HO35020.out) (Kd.R_base ho31) hb); have n2_ := Aside0.mk (Kd.R_elder' (by (with_reducible repeat (first | apply Kd.R_alloc | apply Kd.R_drewN | apply Kd.R_drew)); exact HO35025.out) (Kd.R_base ho31) hb); have n3_ := Aside0.mk (Kd.R_lower (Kd.R_new' (Kd.R_new' (Kd.R_new' ho31 (Kd.R_lt (by (with_reducible repeat (first | apply Kd.R_alloc | apply Kd.R_drewN | apply Kd.R_drew)); exact HO35015.out))) (Kd.R_lt (by (with_reducible repeat (first | apply Kd.R_alloc | apply Kd.R_drewN | apply Kd.R_drew)); exact HO35020.out))) (Kd.R_lt (by (with_reducible repeat (first | apply Kd.R_alloc | apply Kd.R_drewN | apply Kd.R_drew)); exact HO35025.out))) (below_size (by repeat (first | (with_reducible first | exact HB.out | apply below_alloc | apply pw_below_drewN | apply below_drew1 | refine below_set ?_ (IsS88.ge HI35004.out) | refine below_set ?_ GE35001.out | refine below_set ?_ GE35010.out) | exact HB.out)))); have n4_ := Aside0.mk (blk_below (g := gb35001) (o := .cells #[.int .i64 0, .int .i64 0, .int .i64 0, .int .i64 0] 36 (0, 0)) (by (with_reducible repeat (first | refine blk_drewN ?_ _ | refine blk_drew ?_ | refine blk_alloc ?_ _)); exact BK35001.out) hb); have n5_ := Aside0.mk (IsS88.below (by repeat (first | (with_reducible first | exact HI35004.out | apply IsS88.alloc | apply IsS88.drewN | apply IsS88.drew | apply IsS88.set_1 | refine IsS88.far ?_ NB35004_35001.out _ | refine IsS88.far ?_ NB35004_35010.out _) | exact HI35004.out)) hb); have n6_ := Aside0.mk (blk_below (g := gb35010) (o := .cells #[.int .i64 t35005, .int .i64 t35006, .int .i64 t35007, .int .i64 t35008] 36 (0, 0)) (by (with_reducible repeat (first | refine blk_drewN ?_ _ | refine blk_drew ?_ | refine blk_alloc ?_ _)); exact BK35010.out) hb); have n7_ := Aside0.mk (below_step (by repeat (first | (with_reducible first | exact HB.out | apply below_alloc | apply pw_below_drewN | apply below_drew1 | refine below_set ?_ (IsS88.ge HI35004.out) | refine below_set ?_ GE35001.out | refine below_set ?_ GE35010.out) | exact HB.out)) hb); clear HO35015; clear HO35020; clear HO35025; clear BK35001; clear HI35004; clear BK35010; clear HB; have HO35015 := n0_; have HO35020 := n1_; have HO35025 := n2_; have HO35030 := n3_; have BK35001 := n4_; have HI35004 := n5_; have BK35010 := n6_; have HB := n7_; clear n0_ n1_ n2_ n3_ n4_ n5_ n6_ n7_; clear hb ho31; obtain ⟨Ao32, co32, eo32⟩ := Kd.R_slice HO35030.out; subst eo32) | ((with_reducible refine gate_callee (f := 71) rfl ?_); refine goesL_ (some 23) rfl rfl Try.func71 (by kernel_rfl) rfl #[.pointer (some ⟨g35004, 0, none⟩), .slice Ao32 y35028.length co32] rfl (by (try simp only [List.map_toArray, List.map_cons, List.map_nil]); first | done | rfl | (simp only [List.length_drop, List.length_take]; rfl)) ?_; (with_reducible refine (spec_reader_one.calls k g35004 t35002 t35027 _ _ y35028 t35031 t35032 w _ ?side1 ?side2 ?side3 ?side4 ?side5 A9.out).mono ?_); (case side1 => repeat (first | (with_reducible first | exact HI35004.out | apply IsS88.alloc | apply IsS88.drewN | apply IsS88.drew | apply IsS88.set_1 | refine IsS88.far ?_ NB35004_35001.out _ | refine IsS88.far ?_ NB35004_35010.out _) | exact HI35004.out)); (case side2 => repeat (first | (with_reducible first | exact HB.out | apply below_alloc | apply pw_below_drewN | apply below_drew1 | refine below_set ?_ (IsS88.ge HI35004.out) | refine below_set ?_ GE35001.out | refine below_set ?_ GE35010.out) | exact HB.out)); (case side3 => repeat (first | exact (Kd.R_reads' HO35030.out).2.2 | (with_reducible refine Kd.C_alloc ?_ _) | (with_reducible refine Kd.C_drewN ?_ _) | (with_reducible refine Kd.C_drew ?_))); (case side4 => exact (Kd.R_reads' HO35030.out).2.1); (case side5 => exact far_slice (IsS88.own_ne HI35004.out HO35030.out (by decide))); rintro e w33 ⟨rfl, hi, hb, hk⟩; refine ⟨_, rfl, ?_⟩; have n0_ := Aside0.mk (KeepBut.blk hk (g' := gb35001) (o := .cells #[.int .i64 0, .int .i64 0, .int .i64 0, .int .i64 0] 36 (0, 0)) (by (with_reducible repeat (first | refine blk_drewN ?_ _ | refine blk_drew ?_ | refine blk_alloc ?_ _)); exact BK35001.out) NB35001_35004.out (by simp)); have n1_ := Aside0.mk (KeepBut.blk hk (g' := gb35010) (o := .cells #[.int .i64 t35005, .int .i64 t35006, .int .i64 t35007, .int .i64 t35008] 36 (0, 0)) (by (with_reducible repeat (first | refine blk_drewN ?_ _ | refine blk_drew ?_ | refine blk_alloc ?_ _)); exact BK35010.out) NB35010_35004.out (by simp)); have n2_ := Aside0.mk (Kd.R_mono (Kd.R_keep (IsS88.apart (show IsS88 w _ g35004 t35002 t35027 from by repeat (first | (with_reducible first | exact HI35004.out | apply IsS88.alloc | apply IsS88.drewN | apply IsS88.drew | apply IsS88.set_1 | refine IsS88.far ?_ NB35004_35001.out _ | refine IsS88.far ?_ NB35004_35010.out _) | exact HI35004.out)) (by (with_reducible repeat (first | apply Kd.R_alloc | apply Kd.R_drewN | apply Kd.R_drew)); exact HO35015.out) (by decide)) hk (fun _ h => h.2)) (fun _ h => h.1)); have n3_ := Aside0.mk (Kd.R_mono (Kd.R_keep (IsS88.apart (show IsS88 w _ g35004 t35002 t35027 from by repeat (first | (with_reducible first | exact HI35004.out | apply IsS88.alloc | apply IsS88.drewN | apply IsS88.drew | apply IsS88.set_1 | refine IsS88.far ?_ NB35004_35001.out _ | refine IsS88.far ?_ NB35004_35010.out _) | exact HI35004.out)) (by (with_reducible repeat (first | apply Kd.R_alloc | apply Kd.R_drewN | apply Kd.R_drew)); exact HO35020.out) (by decide)) hk (fun _ h => h.2)) (fun _ h => h.1)); have n4_ := Aside0.mk (Kd.R_mono (Kd.R_keep (IsS88.apart (show IsS88 w _ g35004 t35002 t35027 from by repeat (first | (with_reducible first | exact HI35004.out | apply IsS88.alloc | apply IsS88.drewN | apply IsS88.drew | apply IsS88.set_1 | refine IsS88.far ?_ NB35004_35001.out _ | refine IsS88.far ?_ NB35004_35010.out _) | exact HI35004.out)) (by (with_reducible repeat (first | apply Kd.R_alloc | apply Kd.R_drewN | apply Kd.R_drew)); exact HO35025.out) (by decide)) hk (fun _ h => h.2)) (fun _ h => h.1)); have n5_ := Aside0.mk (Kd.R_mono (Kd.R_keep (IsS88.apart (show IsS88 w _ g35004 t35002 t35027 from by repeat (first | (with_reducible first | exact HI35004.out | apply IsS88.alloc | apply IsS88.drewN | apply IsS88.drew | apply IsS88.set_1 | refine IsS88.far ?_ NB35004_35001.out _ | refine IsS88.far ?_ NB35004_35010.out _) | exact HI35004.out)) (by (with_reducible repeat (first | apply Kd.R_alloc | apply Kd.R_drewN | apply Kd.R_drew)); exact HO35030.out) (by decide)) hk (fun _ h => h.2)) (fun _ h => h.1)); have n6_ := Aside0.mk (hb); have n7_ := Aside0.mk (hi); clear BK35001; clear BK35010; clear HO35015; clear HO35020; clear HO35025; clear HO35030; clear HB; clear HI35004; have BK35001 := n0_; have BK35010 := n1_; have HO35015 := n2_; have HO35020 := n3_; have HO35025 := n4_; have HO35030 := n5_; have HB := n6_; have HI35004 := n7_; clear n0_ n1_ n2_ n3_ n4_ n5_ n6_ n7_; (try clear hb); (try clear hb2); (try clear hk); (try clear hi); have hcz34_0 : w33.cell? ⟨gb35010, 0, none⟩ = some (.int .i64 t35005) := (blk_cell BK35010.out 0).trans rfl; have hcz34_1 : w33.cell? ⟨gb35010, 1, none⟩ = some (.int .i64 t35006) := (blk_cell BK35010.out 1).trans rfl; have hcz34_2 : w33.cell? ⟨gb35010, 2, none⟩ = some (.int .i64 t35007) := (blk_cell BK35010.out 2).trans rfl; have hcz34_3 : w33.cell? ⟨gb35010, 3, none⟩ = some (.int .i64 t35008) := (blk_cell BK35010.out 3).trans rfl; have hfz34_0 := blk_frozen BK35010.out 0; have hfz34_1 := blk_frozen BK35010.out 1; have hfz34_2 := blk_frozen BK35010.out 2; have hfz34_3 := blk_frozen BK35010.out 3; have hnb35 := NB35001_35004.out; have hnc35 := NB35004_35001.out; have hcz36_0 : w33.cell? ⟨gb35001, 0, none⟩ = some (.int .i64 0) := (blk_cell BK35001.out 0).trans rfl; have hcz36_1 : w33.cell? ⟨gb35001, 1, none⟩ = some (.int .i64 0) := (blk_cell BK35001.out 1).trans rfl; have hcz36_2 : w33.cell? ⟨gb35001, 2, none⟩ = some (.int .i64 0) := (blk_cell BK35001.out 2).trans rfl; have hcz36_3 : w33.cell? ⟨gb35001, 3, none⟩ = some (.int .i64 0) := (blk_cell BK35001.out 3).trans rfl; have hfz36_0 := blk_frozen BK35001.out 0; have hfz36_1 := blk_frozen BK35001.out 1; have hfz36_2 := blk_frozen BK35001.out 2; have hfz36_3 := blk_frozen BK35001.out 3))
    refine bodyPost_ret (results_cell_row rfl _ _ gb35001 36 #[.int .i64 t35016, .int .i64 t35021, .int .i64 t35026, .int .i64 t35031] (0, 0) _ rfl (by (with_reducible repeat (first | refine blk_drewN ?_ _ | refine blk_drew ?_ | refine blk_alloc ?_ _)); refine blk_put (cs := #[.int .i64 t35016, .int .i64 t35021, .int .i64 t35026, .int .i64 0]) ?_ 3 _ rfl; (with_reducible repeat (first | refine blk_drewN ?_ _ | refine blk_drew ?_ | refine blk_alloc ?_ _)); refine blk_put (cs := #[.int .i64 t35016, .int .i64 t35021, .int .i64 0, .int .i64 0]) ?_ 2 _ rfl; (with_reducible repeat (first | refine blk_drewN ?_ _ | refine blk_drew ?_ | refine blk_alloc ?_ _)); refine blk_put (cs := #[.int .i64 t35016, .int .i64 0, .int .i64 0, .int .i64 0]) ?_ 1 _ rfl; (with_reducible repeat (first | refine blk_drewN ?_ _ | refine blk_drew ?_ | refine blk_alloc ?_ _)); refine blk_put (cs := #[.int .i64 0, .int .i64 0, .int .i64 0, .int .i64 0]) ?_ 0 _ rfl; (with_reducible repeat (first | refine blk_drewN ?_ _ | refine blk_drew ?_ | refine blk_alloc ?_ _)); refine blk_far ?_ NB35001_35010.out _; (with_reducible repeat (first | refine blk_drewN ?_ _ | refine blk_drew ?_ | refine blk_alloc ?_ _)); refine blk_far ?_ NB35001_35010.out _; (with_reducible repeat (first | refine blk_drewN ?_ _ | refine blk_drew ?_ | refine blk_alloc ?_ _)); refine blk_far ?_ NB35001_35010.out _; (with_reducible repeat (first | refine blk_drewN ?_ _ | refine blk_drew ?_ | refine blk_alloc ?_ _)); refine blk_far ?_ NB35001_35010.out _; (with_reducible repeat (first | refine blk_drewN ?_ _ | refine blk_drew ?_ | refine blk_alloc ?_ _)); exact BK35001.out) Try.underlying36 rfl (by kernel_rfl)) rfl ?_
    exact ⟨by first | rfl | (simp [errW_none, errW_some] <;> rfl) | (simp [*, errW_none, errW_some] <;> rfl), by repeat (first | (with_reducible first | exact HB.out | apply below_alloc | apply pw_below_drewN | apply below_drew1 | refine below_set ?_ (IsS88.ge HI35004.out) | refine below_set ?_ GE35001.out | refine below_set ?_ GE35010.out) | exact HB.out)⟩
  · rw [if_neg c5] at H
    have c5b0 : (t35011 == 0) = false := beq_eq_false_iff_ne.mpr c5
    have c5b1 : (t35011 != 0) = true := bne_iff_ne.mpr c5
    simp only [Option.some.injEq, Prod.mk.injEq] at H
    obtain ⟨rfl, rfl, rfl, rfl⟩ := H
    go_enter Try.func34, Try.ntmps34
    go_wp2_with (first | ((with_reducible refine gate_dst (N := 2) rfl ?_); refine box_event ?hg (N := 2) ?hd (cs := #[.int .i64 0, .int .i64 0, .int .i64 0, .int .i64 0]) (t := 36) ?hr ?_; (case hd => rfl); (case hg => rfl); (case hr => first | (go_simp; done) | (go_simp; rfl)); intro gb35001 hg w37 hbox hb; have n0_ := Aside0.mk (below_step (by repeat (first | (with_reducible first | exact HB.out | apply below_alloc | apply pw_below_drewN | apply below_drew1) | exact HB.out)) hb); have n1_ := Aside0.mk (hbox); have n2_ := Aside0.mk ((by rw [hg]; exact (below_size (by repeat (first | (with_reducible first | exact HB.out | apply below_alloc | apply pw_below_drewN | apply below_drew1) | exact HB.out))) : w.heap.size ≤ gb35001)); have n3_ := Aside0.mk ((by rw [hg]; exact (below_size (by repeat (first | (with_reducible first | exact HB.out | apply below_alloc | apply pw_below_drewN | apply below_drew1) | exact HB.out))) : w.heap.size ≤ gb35001)); clear HB; have HB := n0_; have BK35001 := n1_; have GW35001 := n2_; have GE35001 := n3_; clear n0_ n1_ n2_ n3_; clear hb hbox hg) | ((with_reducible refine gate_callee (f := 68) rfl ?_); refine goesL_ (some 6) rfl rfl Try.func68 (by kernel_rfl) rfl #[.slice A0 l0.length c0] rfl (by (try simp only [List.map_toArray, List.map_cons, List.map_nil]); first | done | rfl | (simp only [List.length_drop, List.length_take]; rfl)) ?_; (with_reducible refine (spec_newReader.calls _ _ l0 t35002 t35003 w _ ?side1 ?side2 ?side3 A2.out).mono ?_); (case side1 => repeat (first | (with_reducible first | exact HB.out | apply below_alloc | apply pw_below_drewN | apply below_drew1 | refine below_set ?_ GE35001.out) | exact HB.out)); (case side2 => exact HR0.out); (case side3 => exact HC0.out); rintro e w38 ⟨g35004, rfl, hi, hb, hb2⟩; refine ⟨_, rfl, ?_⟩; have n0_ := Aside0.mk (blk_below (g := gb35001) (o := .cells #[.int .i64 0, .int .i64 0, .int .i64 0, .int .i64 0] 36 (0, 0)) (by (with_reducible repeat (first | refine blk_drewN ?_ _ | refine blk_drew ?_ | refine blk_alloc ?_ _)); exact BK35001.out) hb2); have n1_ := Aside0.mk (hb); have n2_ := Aside0.mk (hi); have n3_ := Aside0.mk (IsS88.ne_blk hi (blk_below (g := gb35001) (o := .cells #[.int .i64 0, .int .i64 0, .int .i64 0, .int .i64 0] 36 (0, 0)) (by (with_reducible repeat (first | refine blk_drewN ?_ _ | refine blk_drew ?_ | refine blk_alloc ?_ _)); exact BK35001.out) hb2) (by decide)); have n4_ := Aside0.mk (Ne.symm (IsS88.ne_blk hi (blk_below (g := gb35001) (o := .cells #[.int .i64 0, .int .i64 0, .int .i64 0, .int .i64 0] 36 (0, 0)) (by (with_reducible repeat (first | refine blk_drewN ?_ _ | refine blk_drew ?_ | refine blk_alloc ?_ _)); exact BK35001.out) hb2) (by decide))); clear BK35001; clear HB; have BK35001 := n0_; have HB := n1_; have HI35004 := n2_; have NB35004_35001 := n3_; have NB35001_35004 := n4_; clear n0_ n1_ n2_ n3_ n4_; (try clear hb); (try clear hb2); (try clear hk); (try clear hi)) | ((with_reducible refine gate_callee (f := 69) rfl ?_); refine goesL_ (some 8) rfl rfl Try.func69 (by kernel_rfl) rfl #[.pointer (some ⟨g35004, 0, none⟩)] rfl (by (try simp only [List.map_toArray, List.map_cons, List.map_nil]); first | done | rfl | (simp only [List.length_drop, List.length_take]; rfl)) ?_; (with_reducible refine (spec_anyBox.calls k g35004 t35002 t35003 t35005 t35006 t35007 t35008 t35009 w _ ?side1 ?side2 A3.out).mono ?_); (case side1 => repeat (first | (with_reducible first | exact HI35004.out | apply IsS88.alloc | apply IsS88.drewN | apply IsS88.drew | apply IsS88.set_1 | refine IsS88.far ?_ NB35004_35001.out _) | exact HI35004.out)); (case side2 => repeat (first | (with_reducible first | exact HB.out | apply below_alloc | apply pw_below_drewN | apply below_drew1 | refine below_set ?_ (IsS88.ge HI35004.out) | refine below_set ?_ GE35001.out) | exact HB.out)); rintro e w39 ⟨rfl, hi, hb, hk⟩; refine ⟨_, rfl, ?_⟩; have n0_ := Aside0.mk (KeepBut.blk hk (g' := gb35001) (o := .cells #[.int .i64 0, .int .i64 0, .int .i64 0, .int .i64 0] 36 (0, 0)) (by (with_reducible repeat (first | refine blk_drewN ?_ _ | refine blk_drew ?_ | refine blk_alloc ?_ _)); exact BK35001.out) NB35001_35004.out (by simp)); have n1_ := Aside0.mk (hb); have n2_ := Aside0.mk (hi); clear BK35001; clear HB; clear HI35004; have BK35001 := n0_; have HB := n1_; have HI35004 := n2_; clear n0_ n1_ n2_; (try clear hb); (try clear hb2); (try clear hk); (try clear hi)) | ((with_reducible refine gate_dst (N := 4) rfl ?_); refine box_event ?hg (N := 4) ?hd (cs := #[.int .i64 0, .int .i64 0, .int .i64 0, .int .i64 0]) (t := 36) ?hr ?_; (case hd => rfl); (case hg => rfl); (case hr => first | (go_simp; done) | (go_simp; rfl)); intro gb35010 hg w40 hbox hb; have n0_ := Aside0.mk (blk_below (g := gb35001) (o := .cells #[.int .i64 0, .int .i64 0, .int .i64 0, .int .i64 0] 36 (0, 0)) (by (with_reducible repeat (first | refine blk_drewN ?_ _ | refine blk_drew ?_ | refine blk_alloc ?_ _)); exact BK35001.out) hb); have n1_ := Aside0.mk (IsS88.below (by repeat (first | (with_reducible first | exact HI35004.out | apply IsS88.alloc | apply IsS88.drewN | apply IsS88.drew | apply IsS88.set_1 | refine IsS88.far ?_ NB35004_35001.out _) | exact HI35004.out)) hb); have n2_ := Aside0.mk (below_step (by repeat (first | (with_reducible first | exact HB.out | apply below_alloc | apply pw_below_drewN | apply below_drew1 | refine below_set ?_ (IsS88.ge HI35004.out) | refine below_set ?_ GE35001.out) | exact HB.out)) hb); have n3_ := Aside0.mk (hbox); have n4_ := Aside0.mk ((by rw [hg]; exact (below_size (by repeat (first | (with_reducible first | exact HB.out | apply below_alloc | apply pw_below_drewN | apply below_drew1 | refine below_set ?_ (IsS88.ge HI35004.out) | refine below_set ?_ GE35001.out) | exact HB.out))) : w.heap.size ≤ gb35010)); have n5_ := Aside0.mk ((by rw [hg]; exact (below_size (by repeat (first | (with_reducible first | exact HB.out | apply below_alloc | apply pw_below_drewN | apply below_drew1 | refine below_set ?_ (IsS88.ge HI35004.out) | refine below_set ?_ GE35001.out) | exact HB.out))) : w.heap.size ≤ gb35010)); have n6_ := Aside0.mk ((by rw [hg]; exact Nat.ne_of_lt (blk_lt (g := gb35001) (o := .cells #[.int .i64 0, .int .i64 0, .int .i64 0, .int .i64 0] 36 (0, 0)) (by (with_reducible repeat (first | refine blk_drewN ?_ _ | refine blk_drew ?_ | refine blk_alloc ?_ _)); exact BK35001.out)) : gb35001 ≠ gb35010)); have n7_ := Aside0.mk ((by rw [hg]; exact Nat.ne_of_gt (blk_lt (g := gb35001) (o := .cells #[.int .i64 0, .int .i64 0, .int .i64 0, .int .i64 0] 36 (0, 0)) (by (with_reducible repeat (first | refine blk_drewN ?_ _ | refine blk_drew ?_ | refine blk_alloc ?_ _)); exact BK35001.out)) : gb35010 ≠ gb35001)); have n8_ := Aside0.mk ((by rw [hg]; exact Nat.ne_of_lt (IsS88.lt (show IsS88 w _ g35004 t35002 t35009 from by repeat (first | (with_reducible first | exact HI35004.out | apply IsS88.alloc | apply IsS88.drewN | apply IsS88.drew | apply IsS88.set_1 | refine IsS88.far ?_ NB35004_35001.out _) | exact HI35004.out))) : g35004 ≠ gb35010)); have n9_ := Aside0.mk ((by rw [hg]; exact Nat.ne_of_gt (IsS88.lt (show IsS88 w _ g35004 t35002 t35009 from by repeat (first | (with_reducible first | exact HI35004.out | apply IsS88.alloc | apply IsS88.drewN | apply IsS88.drew | apply IsS88.set_1 | refine IsS88.far ?_ NB35004_35001.out _) | exact HI35004.out))) : gb35010 ≠ g35004)); clear BK35001; clear HI35004; clear HB; have BK35001 := n0_; have HI35004 := n1_; have HB := n2_; have BK35010 := n3_; have GW35010 := n4_; have GE35010 := n5_; have NB35001_35010 := n6_; have NB35010_35001 := n7_; have NB35004_35010 := n8_; have NB35010_35004 := n9_; clear n0_ n1_ n2_ n3_ n4_ n5_ n6_ n7_ n8_ n9_; clear hb hbox hg; have hnb41 := NB35010_35001.out; have hnc41 := NB35001_35010.out; have hnb42 := NB35010_35004.out; have hnc42 := NB35004_35010.out; have hcz43_0 : w40.cell? ⟨gb35010, 0, none⟩ = some (.int .i64 0) := (blk_cell BK35010.out 0).trans rfl; have hcz43_1 : w40.cell? ⟨gb35010, 1, none⟩ = some (.int .i64 0) := (blk_cell BK35010.out 1).trans rfl; have hcz43_2 : w40.cell? ⟨gb35010, 2, none⟩ = some (.int .i64 0) := (blk_cell BK35010.out 2).trans rfl; have hcz43_3 : w40.cell? ⟨gb35010, 3, none⟩ = some (.int .i64 0) := (blk_cell BK35010.out 3).trans rfl; have hfz43_0 := blk_frozen BK35010.out 0; have hfz43_1 := blk_frozen BK35010.out 1; have hfz43_2 := blk_frozen BK35010.out 2; have hfz43_3 := blk_frozen BK35010.out 3) | ((with_reducible refine gate_callee (f := 70) rfl ?_); refine goesL_ (some 10) rfl rfl Try.func70 (by kernel_rfl) rfl #[.pointer (some ⟨g35004, 0, none⟩), .int .i64 8] rfl (by (try simp only [List.map_toArray, List.map_cons, List.map_nil]); first | done | rfl | (simp only [List.length_drop, List.length_take]; rfl)) ?_; (with_reducible refine (spec_reader_pick.calls k g35004 t35002 t35009 8 t35011 t35012 w _ ?side1 ?side2 A4.out).mono ?_); (case side1 => repeat (first | (with_reducible first | exact HI35004.out | apply IsS88.alloc | apply IsS88.drewN | apply IsS88.drew | apply IsS88.set_1 | refine IsS88.far ?_ NB35004_35001.out _ | refine IsS88.far ?_ NB35004_35010.out _) | exact HI35004.out)); (case side2 => repeat (first | (with_reducible first | exact HB.out | apply below_alloc | apply pw_below_drewN | apply below_drew1 | refine below_set ?_ (IsS88.ge HI35004.out) | refine below_set ?_ GE35001.out | refine below_set ?_ GE35010.out) | exact HB.out)); rintro e w44 ⟨rfl, hi, hb, hk⟩; refine ⟨_, rfl, ?_⟩; have n0_ := Aside0.mk (KeepBut.blk hk (g' := gb35001) (o := .cells #[.int .i64 0, .int .i64 0, .int .i64 0, .int .i64 0] 36 (0, 0)) (by (with_reducible repeat (first | refine blk_drewN ?_ _ | refine blk_drew ?_ | refine blk_alloc ?_ _)); refine blk_far ?_ NB35001_35010.out _; (with_reducible repeat (first | refine blk_drewN ?_ _ | refine blk_drew ?_ | refine blk_alloc ?_ _)); refine blk_far ?_ NB35001_35010.out _; (with_reducible repeat (first | refine blk_drewN ?_ _ | refine blk_drew ?_ | refine blk_alloc ?_ _)); refine blk_far ?_ NB35001_35010.out _; (with_reducible repeat (first | refine blk_drewN ?_ _ | refine blk_drew ?_ | refine blk_alloc ?_ _)); refine blk_far ?_ NB35001_35010.out _; (with_reducible repeat (first | refine blk_drewN ?_ _ | refine blk_drew ?_ | refine blk_alloc ?_ _)); exact BK35001.out) NB35001_35004.out (by simp)); have n1_ := Aside0.mk (KeepBut.blk hk (g' := gb35010) (o := .cells #[.int .i64 t35005, .int .i64 t35006, .int .i64 t35007, .int .i64 t35008] 36 (0, 0)) (by (with_reducible repeat (first | refine blk_drewN ?_ _ | refine blk_drew ?_ | refine blk_alloc ?_ _)); refine blk_put (cs := #[.int .i64 t35005, .int .i64 t35006, .int .i64 t35007, .int .i64 0]) ?_ 3 _ rfl; (with_reducible repeat (first | refine blk_drewN ?_ _ | refine blk_drew ?_ | refine blk_alloc ?_ _)); refine blk_put (cs := #[.int .i64 t35005, .int .i64 t35006, .int .i64 0, .int .i64 0]) ?_ 2 _ rfl; (with_reducible repeat (first | refine blk_drewN ?_ _ | refine blk_drew ?_ | refine blk_alloc ?_ _)); refine blk_put (cs := #[.int .i64 t35005, .int .i64 0, .int .i64 0, .int .i64 0]) ?_ 1 _ rfl; (with_reducible repeat (first | refine blk_drewN ?_ _ | refine blk_drew ?_ | refine blk_alloc ?_ _)); refine blk_put (cs := #[.int .i64 0, .int .i64 0, .int .i64 0, .int .i64 0]) ?_ 0 _ rfl; (with_reducible repeat (first | refine blk_drewN ?_ _ | refine blk_drew ?_ | refine blk_alloc ?_ _)); exact BK35010.out) NB35010_35004.out (by simp)); have n2_ := Aside0.mk (hb); have n3_ := Aside0.mk (hi); clear BK35001; clear BK35010; clear HB; clear HI35004; have BK35001 := n0_; have BK35010 := n1_; have HB := n2_; have HI35004 := n3_; clear n0_ n1_ n2_ n3_; (try clear hb); (try clear hb2); (try clear hk); (try clear hi); have hcz45_0 : w44.cell? ⟨gb35010, 0, none⟩ = some (.int .i64 t35005) := (blk_cell BK35010.out 0).trans rfl; have hcz45_1 : w44.cell? ⟨gb35010, 1, none⟩ = some (.int .i64 t35006) := (blk_cell BK35010.out 1).trans rfl; have hcz45_2 : w44.cell? ⟨gb35010, 2, none⟩ = some (.int .i64 t35007) := (blk_cell BK35010.out 2).trans rfl; have hcz45_3 : w44.cell? ⟨gb35010, 3, none⟩ = some (.int .i64 t35008) := (blk_cell BK35010.out 3).trans rfl; have hfz45_0 := blk_frozen BK35010.out 0; have hfz45_1 := blk_frozen BK35010.out 1; have hfz45_2 := blk_frozen BK35010.out 2; have hfz45_3 := blk_frozen BK35010.out 3; have hnb46 := NB35001_35004.out; have hnc46 := NB35004_35001.out; have hcz47_0 : w44.cell? ⟨gb35001, 0, none⟩ = some (.int .i64 0) := (blk_cell BK35001.out 0).trans rfl; have hcz47_1 : w44.cell? ⟨gb35001, 1, none⟩ = some (.int .i64 0) := (blk_cell BK35001.out 1).trans rfl; have hcz47_2 : w44.cell? ⟨gb35001, 2, none⟩ = some (.int .i64 0) := (blk_cell BK35001.out 2).trans rfl; have hcz47_3 : w44.cell? ⟨gb35001, 3, none⟩ = some (.int .i64 0) := (blk_cell BK35001.out 3).trans rfl; have hfz47_0 := blk_frozen BK35001.out 0; have hfz47_1 := blk_frozen BK35001.out 1; have hfz47_2 := blk_frozen BK35001.out 2; have hfz47_3 := blk_frozen BK35001.out 3))
    refine bodyPost_ret (results_cell_row rfl _ _ gb35001 36 #[.int .i64 t35005, .int .i64 t35006, .int .i64 t35007, .int .i64 t35008] (0, 0) _ rfl (by (with_reducible repeat (first | refine blk_drewN ?_ _ | refine blk_drew ?_ | refine blk_alloc ?_ _)); refine blk_put (cs := #[.int .i64 t35005, .int .i64 t35006, .int .i64 t35007, .int .i64 0]) ?_ 3 _ rfl; (with_reducible repeat (first | refine blk_drewN ?_ _ | refine blk_drew ?_ | refine blk_alloc ?_ _)); refine blk_put (cs := #[.int .i64 t35005, .int .i64 t35006, .int .i64 0, .int .i64 0]) ?_ 2 _ rfl; (with_reducible repeat (first | refine blk_drewN ?_ _ | refine blk_drew ?_ | refine blk_alloc ?_ _)); refine blk_put (cs := #[.int .i64 t35005, .int .i64 0, .int .i64 0, .int .i64 0]) ?_ 1 _ rfl; (with_reducible repeat (first | refine blk_drewN ?_ _ | refine blk_drew ?_ | refine blk_alloc ?_ _)); refine blk_put (cs := #[.int .i64 0, .int .i64 0, .int .i64 0, .int .i64 0]) ?_ 0 _ rfl; (with_reducible repeat (first | refine blk_drewN ?_ _ | refine blk_drew ?_ | refine blk_alloc ?_ _)); exact BK35001.out) Try.underlying36 rfl (by kernel_rfl)) rfl ?_
    exact ⟨by first | rfl | (simp [errW_none, errW_some] <;> rfl) | (simp [*, errW_none, errW_some] <;> rfl), by repeat (first | (with_reducible first | exact HB.out | apply below_alloc | apply pw_below_drewN | apply below_drew1 | refine below_set ?_ (IsS88.ge HI35004.out) | refine below_set ?_ GE35001.out | refine below_set ?_ GE35010.out) | exact HB.out)⟩

end Go.Proofs.Ytfgeickfheogoaa.Q

namespace Go.Proofs.Ytfgeickfheogoaa.Q
open Go.RowKit Go.Proofs.YtfgeickfheogoaaW.PrintWords Go.Proofs.YtfgeickfheogoaaW.PrintLast Go.Proofs.YtfgeickfheogoaaW.PrintMore
attribute [local go_sem] max2_int min2_int max_two min_two max_three min_three max_four min_four
set_option linter.unusedVariables false
set_option linter.unusedSimpArgs false
theorem eqA57 (d : Nat) (w : World) (x0 y0 : Int) (x1 y1 : Int) (x2 y2 : Int) :
    (Op.equalIn (d + 2) 57 (.agg #[.int .i64 x0, .int .i64 x1, .int .i64 x2]) (.agg #[.int .i64 y0, .int .i64 y1, .int .i64 y2])).run Try.prog w = .ok (x0 == y0 && (x1 == y1 && (x2 == y2))) w := by
  refine eqA_of Try.underlying57 (by kernel_rfl) ?_
  refine eqf_cons (by rfl) (by go_simp; rfl) (by go_simp; rfl) (by go_simp) ?_
  refine eqf_cons (by rfl) (by go_simp; rfl) (by go_simp; rfl) (by go_simp) ?_
  exact eqf_last (by rfl) (by go_simp; rfl) (by go_simp; rfl) (by go_simp)
end Go.Proofs.Ytfgeickfheogoaa.Q

namespace Go.Proofs.Ytfgeickfheogoaa.Q
open Go.RowKit Go.Proofs.YtfgeickfheogoaaW.PrintWords Go.Proofs.YtfgeickfheogoaaW.PrintLast Go.Proofs.YtfgeickfheogoaaW.PrintMore
attribute [local go_sem] max2_int min2_int max_two min_two max_three min_three max_four min_four
set_option linter.unusedVariables false
set_option linter.unusedSimpArgs false
attribute [local go_sem high] eqA57
/-! ### laws_equalRuns: function 35 -/
def laws_equalRuns.l0 : Nat → List (S57) → List (S57) → Int → Option (Bool)
  | 0, _, _, _ => none
  | k + 1, x0, x1, x5 => if x5 < (x0.length : Int) then (if 0 ≤ x5 then (if x5 < (x1.length : Int) then (if (!(((rd_T57 x0 x5).f0) == ((rd_T57 x1 x5).f0)) || (!(((rd_T57 x0 x5).f1) == ((rd_T57 x1 x5).f1)) || (!(((rd_T57 x0 x5).f2) == ((rd_T57 x1 x5).f2))))) = true then (some false) else (laws_equalRuns.l0 k x0 x1 (wrap64 (x5 + 1)))) else (none)) else (none)) else (some true)
def laws_equalRuns.f (k : Nat) (l0 : List (S57)) (l1 : List (S57)) : Option (Bool) := if (l0.length : Int) = (l1.length : Int) then (laws_equalRuns.l0 k l0 l1 0) else (some false)
theorem laws_equalRuns.mono_l : ∀ k, (∀ y0 y1 y2, LeO (laws_equalRuns.l0 k y0 y1 y2) (laws_equalRuns.l0 (k + 1) y0 y1 y2))
  | 0 => fun _ _ _ r h => by simp [laws_equalRuns.l0] at h
  | k + 1 => by
    have ih0 := laws_equalRuns.mono_l k
    · intro y0 y1 y2
      unfold laws_equalRuns.l0
      repeat' first
      | (with_reducible exact ih0 _ _ _)
      | (with_reducible exact LeO.refl _)
      | (with_reducible exact LeO.none _)
      | (with_reducible refine LeO.ite ?_ ?_)
      | (with_reducible refine LeO.bind ?_ (fun _ => ?_))
      | exact ih0 _ _ _
      | exact LeO.none _
      | refine LeO.ite ?_ ?_
      | refine LeO.bind ?_ (fun _ => ?_)
theorem laws_equalRuns.mono : ∀ a0 a1 k, LeO (laws_equalRuns.f k a0 a1) (laws_equalRuns.f (k + 1) a0 a1) := by
  intro a0 a1 k
  have ih0 := laws_equalRuns.mono_l k
  unfold laws_equalRuns.f
  repeat' first
      | (with_reducible exact ih0 _ _ _)
      | (with_reducible exact LeO.refl _)
      | (with_reducible exact LeO.none _)
      | (with_reducible refine LeO.ite ?_ ?_)
      | (with_reducible refine LeO.bind ?_ (fun _ => ?_))
      | exact ih0 _ _ _
      | exact LeO.none _
      | refine LeO.ite ?_ ?_
      | refine LeO.bind ?_ (fun _ => ?_)
set_option maxHeartbeats 8000000 in
set_option maxRecDepth 100000 in
theorem laws_equalRuns.calls (k : Nat) (A0 : Option Addr) (c0 : Nat) (l0 : List (S57)) (A1 : Option Addr) (c1 : Nat) (l1 : List (S57)) (r : Bool) (w : World) (hr0 : Kd.C k57 w A0 l0.length l0) (hc0 : l0.length ≤ c0) (hr1 : Kd.C k57 w A1 l1.length l1) (hc1 : l1.length ≤ c1) (h : laws_equalRuns.f k l0 l1 = some r) :
    Calls Try.prog 35 #[.slice A0 l0.length c0, .slice A1 l1.length c1] w fun e w' => e = .returned (.bool r) ∧ Drawn0 w w' := by
  have hu57 := Try.underlying57
  have HR0 := Aside0.mk hr0
  have HC0 := Aside0.mk hc0
  clear hr0 hc0
  have HR1 := Aside0.mk hr1
  have HC1 := Aside0.mk hc1
  clear hr1 hc1
  have H : (if (l0.length : Int) = (l1.length : Int) then (laws_equalRuns.l0 k l0 l1 0) else (some false)) = some r := h
  clear h
  by_cases c3 : (l0.length : Int) = (l1.length : Int)
  · rw [if_pos c3] at H
    have c3b0 : ((l0.length : Int) == (l1.length : Int)) = true := beq_iff_eq.mpr c3
    have c3b1 : ((l0.length : Int) != (l1.length : Int)) = false := bne_eq_false_iff_eq.mpr c3
    have c3b2 : (l0.length == l1.length) = true := by first | simpa using c3 | (simp at c3 ⊢; omega)
    clear c3
    have H' := Aside0.mk H
    clear H
    go_enter Try.func35, Try.ntmps35
    go_wp2
    repeat (go_quiet (fail); try go_wp2)
    go_loopg [5] k (fun kq v5 w' => ∃ (x5_1 : Int), v5 = .int .i64 x5_1 ∧ Aside0 (laws_equalRuns.l0 kq l0 l1 x5_1 = some r) ∧ Aside0 (kq ≤ k) ∧ Drawn0 w w')
    case atStart => exact ⟨(0), (by first | rfl | (simp; done) | (simp [*]; done)), H', ⟨Nat.le_refl _⟩, by repeat (first | exact Drawn0.refl _ | apply Drawn0.step)⟩
    case round =>
      clear H'
      try clear c1
      try clear p2
      try clear c3
      try clear c3b0
      try clear c3b1
      try clear c3b2
      obtain ⟨x5_1, rfl, HA, HK1, ⟨m1, rfl⟩⟩ := hrel
      cases gk with
      | zero => exact absurd HA.out (by simp [laws_equalRuns.l0])
      | succ k1 =>
        have H := HA.out
        clear HA
        simp only [laws_equalRuns.l0] at H
        by_cases c4 : x5_1 < (l0.length : Int)
        · rw [if_pos c4] at H
          have c4b0 : decide (x5_1 < (l0.length : Int)) = true := decide_eq_true c4
          clear c4
          by_cases c5 : 0 ≤ x5_1
          · rw [if_pos c5] at H
            have c5b0 : decide (0 ≤ x5_1) = true := decide_eq_true c5
            clear c5
            by_cases c6 : x5_1 < (l1.length : Int)
            · rw [if_pos c6] at H
              have c6b0 : decide (x5_1 < (l1.length : Int)) = true := decide_eq_true c6
              clear c6
              by_cases c7 : (!(((rd_T57 l0 x5_1).f0) == ((rd_T57 l1 x5_1).f0)) || (!(((rd_T57 l0 x5_1).f1) == ((rd_T57 l1 x5_1).f1)) || (!(((rd_T57 l0 x5_1).f2) == ((rd_T57 l1 x5_1).f2))))) = true
              · rw [if_pos c7] at H
                have c7b0 : (!(((rd_T57 l0 x5_1).f0) == ((rd_T57 l1 x5_1).f0)) || (!(((rd_T57 l0 x5_1).f1) == ((rd_T57 l1 x5_1).f1)) || (!(((rd_T57 l0 x5_1).f2) == ((rd_T57 l1 x5_1).f2))))) = true := c7
                clear c7
                obtain rfl := Option.some.inj H
                have p36001 : 0 ≤ (x5_1 : Int) := of_decide_eq_true (by first | (with_reducible assumption) | assumption)
                have q36001 : x5_1 < (l0.length : Int) := of_decide_eq_true (by first | (with_reducible assumption) | assumption)
                obtain ⟨ad36001, e36001, hx36001_0, hx36001_1, hx36001_2⟩ := at_T57 HR0.out x5_1 p36001 q36001
                cases e36001
                replace p36001 := eq_true p36001
                replace q36001 := eq_true q36001
                have p36002 : 0 ≤ (x5_1 : Int) := of_decide_eq_true (by first | (with_reducible assumption) | assumption)
                have q36002 : x5_1 < (l1.length : Int) := of_decide_eq_true (by first | (with_reducible assumption) | assumption)
                obtain ⟨ad36002, e36002, hx36002_0, hx36002_1, hx36002_2⟩ := at_T57 HR1.out x5_1 p36002 q36002
                cases e36002
                replace p36002 := eq_true p36002
                replace q36002 := eq_true q36002
                go_wp2
                repeat (go_quiet (fail); try go_wp2)
                go_ret
                exact ⟨by first | rfl | (simp; done) | (simp [*]; done), by repeat (first | exact Drawn0.refl _ | apply Drawn0.step)⟩
              · rw [if_neg c7] at H
                have c7b0 : (!(((rd_T57 l0 x5_1).f0) == ((rd_T57 l1 x5_1).f0)) || (!(((rd_T57 l0 x5_1).f1) == ((rd_T57 l1 x5_1).f1)) || (!(((rd_T57 l0 x5_1).f2) == ((rd_T57 l1 x5_1).f2))))) = false := by simpa using c7
                clear c7
                have H' := Aside0.mk H
                clear H
                have p36001 : 0 ≤ (x5_1 : Int) := of_decide_eq_true (by first | (with_reducible assumption) | assumption)
                have q36001 : x5_1 < (l0.length : Int) := of_decide_eq_true (by first | (with_reducible assumption) | assumption)
                obtain ⟨ad36001, e36001, hx36001_0, hx36001_1, hx36001_2⟩ := at_T57 HR0.out x5_1 p36001 q36001
                cases e36001
                replace p36001 := eq_true p36001
                replace q36001 := eq_true q36001
                have p36002 : 0 ≤ (x5_1 : Int) := of_decide_eq_true (by first | (with_reducible assumption) | assumption)
                have q36002 : x5_1 < (l1.length : Int) := of_decide_eq_true (by first | (with_reducible assumption) | assumption)
                obtain ⟨ad36002, e36002, hx36002_0, hx36002_1, hx36002_2⟩ := at_T57 HR1.out x5_1 p36002 q36002
                cases e36002
                replace p36002 := eq_true p36002
                replace q36002 := eq_true q36002
                go_wp2
                repeat (go_quiet (fail); try go_wp2)
                go_roundg k1
                case measure => have := HK1.out; omega
                case rel => exact ⟨(wrap64 (x5_1 + 1)), (by first | rfl | (simp; done) | (simp [*]; done)), H', ⟨by have := HK1.out; omega⟩, by repeat (first | exact Drawn0.refl _ | apply Drawn0.step)⟩
            · rw [if_neg c6] at H
              exact absurd H (by simp)
          · rw [if_neg c5] at H
            exact absurd H (by simp)
        · rw [if_neg c4] at H
          have c4b0 : decide (x5_1 < (l0.length : Int)) = false := decide_eq_false c4
          clear c4
          obtain rfl := Option.some.inj H
          go_wp2
          repeat (go_quiet (fail); try go_wp2)
          go_ret
          exact ⟨by first | rfl | (simp; done) | (simp [*]; done), by repeat (first | exact Drawn0.refl _ | apply Drawn0.step)⟩
  · rw [if_neg c3] at H
    have c3b0 : ((l0.length : Int) == (l1.length : Int)) = false := beq_eq_false_iff_ne.mpr c3
    have c3b1 : ((l0.length : Int) != (l1.length : Int)) = true := bne_iff_ne.mpr c3
    have c3b2 : (l0.length == l1.length) = false := by first | simpa using c3 | (simp at c3 ⊢; omega)
    obtain rfl := Option.some.inj H
    go_enter Try.func35, Try.ntmps35
    go_wp2
    repeat (go_quiet (fail); try go_wp2)
    go_ret
    exact ⟨by first | rfl | (simp; done) | (simp [*]; done), by repeat (first | exact Drawn0.refl _ | apply Drawn0.step)⟩

end Go.Proofs.Ytfgeickfheogoaa.Q

/- (impl.grid).has: whether a pixel, which may be anywhere, is in a grid. -/
namespace Go.Proofs.Ytfgeickfheogoaa.Q
open Go.RowKit Go.Proofs.YtfgeickfheogoaaW.PrintWords Go.Proofs.YtfgeickfheogoaaW.PrintLast Go.Proofs.YtfgeickfheogoaaW.PrintMore
attribute [local go_sem] max2_int min2_int max_two min_two max_three min_three max_four min_four
set_option linter.unusedVariables false
set_option linter.unusedSimpArgs false

def hasP (g : Nat → Bool) (x y : Int) : Bool := decide (x ≥ 0) && decide (x < 16) && decide (y ≥ 0) && decide (y < 16) && g (y.toNat * 16 + x.toNat)

set_option maxHeartbeats 2000000 in
set_option maxRecDepth 100000 in
theorem has_calls (g : Nat → Bool) (x y : Int) (w : World) :
    Calls Try.prog 60 #[.agg (gc g), .int .i64 x, .int .i64 y] w fun e w' => e = .returned (.bool (hasP g x y)) ∧ Below w.heap.size w w' := by
  have hB := Aside0.mk (below_alloc (Below.refl w.heap.size w) (.cells (gc g) 66))
  have hgs := gc_size g
  by_cases h1 : x ≥ 0
  · have d1 : decide (0 ≤ x) = true := by simpa using h1
    by_cases h2 : x < 16
    · have d2 : decide (x < 16) = true := by simpa using h2
      by_cases h3 : y ≥ 0
      · have d3 : decide (0 ≤ y) = true := by simpa using h3
        by_cases h4 : y < 16
        · have d4 : decide (y < 16) = true := by simpa using h4
          obtain ⟨x, rfl⟩ := Int.eq_ofNat_of_zero_le h1
          obtain ⟨y, rfl⟩ := Int.eq_ofNat_of_zero_le h3
          have hE := Aside0.mk (show hasP g (x : Int) (y : Int) = g (y * 16 + x) by simp [hasP]; omega)
          have hc := (GridAt.new w g).cell (y * 16 + x) (by omega)
          go_enter Try.func60, Try.ntmps60
          go_wp2
          go_ret
          exact ⟨by rw [hE.out]; rfl, hB.out⟩
        · have d4 : decide (y < 16) = false := by simpa using h4
          have hE := Aside0.mk (show hasP g x y = false by simp [hasP, h4])
          go_enter Try.func60, Try.ntmps60
          go_wp2
          go_ret
          exact ⟨by rw [hE.out]; rfl, hB.out⟩
      · have d3 : decide (0 ≤ y) = false := by simpa using h3
        have hE := Aside0.mk (show hasP g x y = false by simp [hasP, h3])
        go_enter Try.func60, Try.ntmps60
        go_wp2
        go_ret
        exact ⟨by rw [hE.out]; rfl, hB.out⟩
    · have d2 : decide (x < 16) = false := by simpa using h2
      have hE := Aside0.mk (show hasP g x y = false by simp [hasP, h2])
      go_enter Try.func60, Try.ntmps60
      go_wp2
      go_ret
      exact ⟨by rw [hE.out]; rfl, hB.out⟩
  · have d1 : decide (0 ≤ x) = false := by simpa using h1
    have hE := Aside0.mk (show hasP g x y = false by simp [hasP, h1])
    go_enter Try.func60, Try.ntmps60
    go_wp2
    go_ret
    exact ⟨by rw [hE.out]; rfl, hB.out⟩
end Go.Proofs.Ytfgeickfheogoaa.Q

/- Pixels that are connected in a grid: what a search finds that begins at one of them. -/
namespace Go.Proofs.Ytfgeickfheogoaa.Q
open Go.RowKit Go.Proofs.YtfgeickfheogoaaW.PrintWords Go.Proofs.YtfgeickfheogoaaW.PrintLast Go.Proofs.YtfgeickfheogoaaW.PrintMore
attribute [local go_sem] max2_int min2_int max_two min_two max_three min_three max_four min_four
set_option linter.unusedVariables false
set_option linter.unusedSimpArgs false

theorem hasP_iff (g : Nat → Bool) (x y : Int) : hasP g x y = true ↔ 0 ≤ x ∧ x < 16 ∧ 0 ≤ y ∧ y < 16 ∧ g (y.toNat * 16 + x.toNat) = true := by
  simp [hasP, and_assoc]
theorem hasP_nat (g : Nat → Bool) (r : Nat) (hr : r < 256) : hasP g ((r % 16 : Nat) : Int) ((r / 16 : Nat) : Int) = g r := by
  have e : r / 16 * 16 + r % 16 = r := by omega
  rw [Bool.eq_iff_iff, hasP_iff, Int.toNat_natCast, Int.toNat_natCast, e]
  constructor
  · intro h; exact h.2.2.2.2
  · intro h; exact ⟨by omega, by omega, by omega, by omega, h⟩
end Go.Proofs.Ytfgeickfheogoaa.Q

/- impl.neighbours: the four neighbours of a pixel. -/
namespace Go.Proofs.Ytfgeickfheogoaa.Q
open Go.RowKit Go.Proofs.YtfgeickfheogoaaW.PrintWords Go.Proofs.YtfgeickfheogoaaW.PrintLast Go.Proofs.YtfgeickfheogoaaW.PrintMore
attribute [local go_sem] max2_int min2_int max_two min_two max_three min_three max_four min_four
set_option linter.unusedVariables false
set_option linter.unusedSimpArgs false
open Go.Proofs.Ytfgeickfheogoaa.Pure

/-- neighbour i of a pixel, which may be anywhere -/
def nbI (x y : Int) (i : Nat) : Int × Int := match i with
  | 0 => (x - 1, y)
  | 1 => (x + 1, y)
  | 2 => (x, y - 1)
  | _ => (x, y + 1)
/-- whether the neighbours before i all have what h says -/
def nbAll (h : Int → Int → Bool) (x y : Int) : Bool := h (x - 1) y && h (x + 1) y && h x (y - 1) && h x (y + 1)
def nbAny (h : Int → Int → Bool) (x y : Int) : Bool := h (x - 1) y || h (x + 1) y || h x (y - 1) || h x (y + 1)
theorem nbAll_no {h : Int → Int → Bool} {x y : Int} (i : Nat) (hi : i < 4) (hf : h (nbI x y i).1 (nbI x y i).2 = false) : nbAll h x y = false := by
  unfold nbAll
  obtain rfl | rfl | rfl | rfl : i = 0 ∨ i = 1 ∨ i = 2 ∨ i = 3 := by omega
  all_goals (simp only [nbI] at hf; rw [hf]; simp)
theorem nbAll_yes {h : Int → Int → Bool} {x y : Int} (ha : ∀ i, i < 4 → h (nbI x y i).1 (nbI x y i).2 = true) : nbAll h x y = true := by
  unfold nbAll
  have h0 := ha 0 (by omega)
  have h1 := ha 1 (by omega)
  have h2 := ha 2 (by omega)
  have h3 := ha 3 (by omega)
  simp only [nbI] at h0 h1 h2 h3
  rw [h0, h1, h2, h3]; rfl
theorem nbAny_yes {h : Int → Int → Bool} {x y : Int} (i : Nat) (hi : i < 4) (hf : h (nbI x y i).1 (nbI x y i).2 = true) : nbAny h x y = true := by
  unfold nbAny
  obtain rfl | rfl | rfl | rfl : i = 0 ∨ i = 1 ∨ i = 2 ∨ i = 3 := by omega
  all_goals (simp only [nbI] at hf; rw [hf]; simp)
theorem nbAny_no {h : Int → Int → Bool} {x y : Int} (ha : ∀ i, i < 4 → h (nbI x y i).1 (nbI x y i).2 = false) : nbAny h x y = false := by
  unfold nbAny
  have h0 := ha 0 (by omega)
  have h1 := ha 1 (by omega)
  have h2 := ha 2 (by omega)
  have h3 := ha 3 (by omega)
  simp only [nbI] at h0 h1 h2 h3
  rw [h0, h1, h2, h3]; rfl
def nbv (x y : Int) : Value := .agg #[.int .i64 (x - 1), .int .i64 y, .int .i64 (x + 1), .int .i64 y, .int .i64 x, .int .i64 (y - 1), .int .i64 x, .int .i64 (y + 1)]

set_option maxHeartbeats 4000000 in
set_option maxRecDepth 100000 in
theorem neighbours_calls (x y : Int) (h0 : 0 ≤ x ∧ x < 16 ∧ 0 ≤ y ∧ y < 16) (w : World) :
    Calls Try.prog 84 #[.int .i64 x, .int .i64 y] w fun e w' => e = .returned (nbv x y) ∧ Below w.heap.size w w' := by
  have e1 : wrap64 (x - 1) = x - 1 := w64 (by omega) (by omega)
  have e2 : wrap64 (x + 1) = x + 1 := w64 (by omega) (by omega)
  have e3 : wrap64 (y - 1) = y - 1 := w64 (by omega) (by omega)
  have e4 : wrap64 (y + 1) = y + 1 := w64 (by omega) (by omega)
  have hB := Aside0.mk (below_alloc (Below.refl w.heap.size w) (.cells #[.int .i64 0, .int .i64 0, .int .i64 0, .int .i64 0, .int .i64 0, .int .i64 0, .int .i64 0, .int .i64 0] 90))
  clear h0
  go_enter Try.func84, Try.ntmps84
  go_wp2
  refine bodyPost_ret (results_cell_row rfl _ _ w.heap.size 90 #[.int .i64 (x - 1), .int .i64 y, .int .i64 (x + 1), .int .i64 y, .int .i64 x, .int .i64 (y - 1), .int .i64 x, .int .i64 (y + 1)] (0, 0) (.array 4 89) rfl (blk_new _ _) Try.underlying90 rfl (by kernel_rfl)) rfl ?_
  exact ⟨rfl, below_alloc (Below.refl _ _) _⟩
end Go.Proofs.Ytfgeickfheogoaa.Q

/- (impl.grid).edge: the pixels of a grid that have a neighbour that is not in it. -/
namespace Go.Proofs.Ytfgeickfheogoaa.Q
open Go.RowKit Go.Proofs.YtfgeickfheogoaaW.PrintWords Go.Proofs.YtfgeickfheogoaaW.PrintLast Go.Proofs.YtfgeickfheogoaaW.PrintMore
attribute [local go_sem] max2_int min2_int max_two min_two max_three min_three max_four min_four
set_option linter.unusedVariables false
set_option linter.unusedSimpArgs false

/-- whether pixel p of a grid is at its edge -/
def edgeP (g : Nat → Bool) (x y : Nat) : Bool := g (y * 16 + x) && !(nbAll (hasP g) (x : Int) (y : Int))

set_option maxHeartbeats 1600000 in
set_option maxRecDepth 100000 in
theorem edge1_calls (g : Nat → Bool) (x y : Nat) (hx : x < 16) (hy : y < 16) (B : Nat) (w : World) (hg : GridAt w B g) :
    Calls Try.prog 83 #[.int .i64 (x : Int), .int .i64 (y : Int), .pointer (some ⟨B, 0, none⟩)] w fun e w' => e = .returned (.bool (edgeP g x y)) ∧ Below w.heap.size w w' := by
  have hgs := gc_size g
  have hcg := hg.cell (y * 16 + x) (by omega)
  have HN := Aside0.mk (neighbours_calls (x : Int) (y : Int) (by omega))
  have HG := Aside0.mk hg
  have HI := Aside0.mk (show (Try.prog.info? 66).map (·.size) = some (gc g).size by rw [gc_size]; exact info66)
  clear hg
  by_cases hp : g (y * 16 + x) = true
  · rw [hp] at hcg
    go_enter Try.func83, Try.ntmps83
    go_wp2_with (first
      | (go_at_call 84; refine (HN.out _).mono ?_; rintro e w1 ⟨rfl, hb1⟩; have HB1 := Aside0.mk hb1; clear hb1))
    unfold nbv
    go_loopw [17] (fun v17 W => ∃ i : Nat, v17 = .int .i64 i ∧ i ≤ 4 ∧ Aside0 (∀ j, j < i → hasP g (nbI x y j).1 (nbI x y j).2 = true) ∧ Aside0 (Below w.heap.size w W)) (fun v17 _ => 4 - (intOf v17).toNat)
    case atStart => exact ⟨0, rfl, by omega, ⟨fun j hj => absurd hj (by omega)⟩, HB1⟩
    case round =>
      obtain ⟨i, rfl, hi, HA, HB⟩ := hrel
      obtain ⟨wo, rfl⟩ : ∃ wo : World, wo = wr := ⟨_, rfl⟩
      have HGW := Aside0.mk (HG.out.below HB.out)
      have hg' : wo.heap[B]? = some (.cells (gc g) 66 (0, 0)) := HGW.out
      by_cases h4 : i = 4
      · subst h4
        have HE := Aside0.mk (show edgeP g x y = false by unfold edgeP; rw [hp, nbAll_yes (fun i hi => HA.out i hi)]; rfl)
        go_wp2
        go_ret
        exact ⟨by rw [HE.out]; rfl, HB.out⟩
      · have hall : ∀ (nx ny : Int), nbI x y i = (nx, ny) → True := fun _ _ _ => trivial
        obtain h | h | h | h : i = 0 ∨ i = 1 ∨ i = 2 ∨ i = 3 := by omega
        all_goals subst h
        · clear hall
          have hn : nbI x y 0 = ((x : Int) - 1, (y : Int)) := rfl
          cases hv : hasP g ((x : Int) - 1) ((y : Int)) with
          | true =>
            have HC := Aside0.mk (fun W => has_calls g ((x : Int) - 1) ((y : Int)) W)
            rw [hv] at HC
            have HV := Aside0.mk hv
            clear hv
            go_wp2_with (first
              | ((with_reducible refine gate_dst (N := 19) rfl ?_); refine Kd.event_run (v := .agg #[.int .i64 ((x : Int) - 1), .int .i64 ((y : Int))]) (w1 := wo) rfl (by kernel_rfl) ?_)
              | ((with_reducible refine gate_dst (N := 20) rfl ?_); refine wpList_load_row rfl 66 (.tmp 2) rfl B rfl 66 (gc g) (0, 0) (.array 16 64) (blk_alloc hg' _) underlying66 rfl HI.out ?_)
              | (go_at_call 60; refine (HC.out _).mono ?_; rintro e w2 ⟨rfl, hb2⟩; have HB2 := Aside0.mk (below_then (below_alloc HB.out _) (below_alloc HB.out _).size hb2); clear hb2))
            go_roundw
            case rel => exact ⟨0+1, by go_num, by omega, ⟨fun j hj => by
              by_cases e : j = 0
              · subst e; exact HV.out
              · exact HA.out j (by omega)⟩, HB2⟩
            case measure => simp [intOf]
          | false =>
            have HC := Aside0.mk (fun W => has_calls g ((x : Int) - 1) ((y : Int)) W)
            rw [hv] at HC
            have HE := Aside0.mk (show edgeP g x y = true by unfold edgeP; rw [hp, nbAll_no 0 (by omega) hv]; rfl)
            clear hv
            go_wp2_with (first
              | ((with_reducible refine gate_dst (N := 19) rfl ?_); refine Kd.event_run (v := .agg #[.int .i64 ((x : Int) - 1), .int .i64 ((y : Int))]) (w1 := wo) rfl (by kernel_rfl) ?_)
              | ((with_reducible refine gate_dst (N := 20) rfl ?_); refine wpList_load_row rfl 66 (.tmp 2) rfl B rfl 66 (gc g) (0, 0) (.array 16 64) (blk_alloc hg' _) underlying66 rfl HI.out ?_)
              | (go_at_call 60; refine (HC.out _).mono ?_; rintro e w2 ⟨rfl, hb2⟩; have HB2 := Aside0.mk (below_then (below_alloc HB.out _) (below_alloc HB.out _).size hb2); clear hb2))
            go_ret
            exact ⟨by rw [HE.out]; rfl, HB2.out⟩
        · clear hall
          have hn : nbI x y 1 = ((x : Int) + 1, (y : Int)) := rfl
          cases hv : hasP g ((x : Int) + 1) ((y : Int)) with
          | true =>
            have HC := Aside0.mk (fun W => has_calls g ((x : Int) + 1) ((y : Int)) W)
            rw [hv] at HC
            have HV := Aside0.mk hv
            clear hv
            go_wp2_with (first
              | ((with_reducible refine gate_dst (N := 19) rfl ?_); refine Kd.event_run (v := .agg #[.int .i64 ((x : Int) + 1), .int .i64 ((y : Int))]) (w1 := wo) rfl (by kernel_rfl) ?_)
              | ((with_reducible refine gate_dst (N := 20) rfl ?_); refine wpList_load_row rfl 66 (.tmp 2) rfl B rfl 66 (gc g) (0, 0) (.array 16 64) (blk_alloc hg' _) underlying66 rfl HI.out ?_)
              | (go_at_call 60; refine (HC.out _).mono ?_; rintro e w2 ⟨rfl, hb2⟩; have HB2 := Aside0.mk (below_then (below_alloc HB.out _) (below_alloc HB.out _).size hb2); clear hb2))
            go_roundw
            case rel => exact ⟨1+1, by go_num, by omega, ⟨fun j hj => by
              by_cases e : j = 1
              · subst e; exact HV.out
              · exact HA.out j (by omega)⟩, HB2⟩
            case measure => simp [intOf]
          | false =>
            have HC := Aside0.mk (fun W => has_calls g ((x : Int) + 1) ((y : Int)) W)
            rw [hv] at HC
            have HE := Aside0.mk (show edgeP g x y = true by unfold edgeP; rw [hp, nbAll_no 1 (by omega) hv]; rfl)
            clear hv
            go_wp2_with (first
              | ((with_reducible refine gate_dst (N := 19) rfl ?_); refine Kd.event_run (v := .agg #[.int .i64 ((x : Int) + 1), .int .i64 ((y : Int))]) (w1 := wo) rfl (by kernel_rfl) ?_)
              | ((with_reducible refine gate_dst (N := 20) rfl ?_); refine wpList_load_row rfl 66 (.tmp 2) rfl B rfl 66 (gc g) (0, 0) (.array 16 64) (blk_alloc hg' _) underlying66 rfl HI.out ?_)
              | (go_at_call 60; refine (HC.out _).mono ?_; rintro e w2 ⟨rfl, hb2⟩; have HB2 := Aside0.mk (below_then (below_alloc HB.out _) (below_alloc HB.out _).size hb2); clear hb2))
            go_ret
            exact ⟨by rw [HE.out]; rfl, HB2.out⟩
        · clear hall
          have hn : nbI x y 2 = ((x : Int), (y : Int) - 1) := rfl
          cases hv : hasP g ((x : Int)) ((y : Int) - 1) with
          | true =>
            have HC := Aside0.mk (fun W => has_calls g ((x : Int)) ((y : Int) - 1) W)
            rw [hv] at HC
            have HV := Aside0.mk hv
            clear hv
            go_wp2_with (first
              | ((with_reducible refine gate_dst (N := 19) rfl ?_); refine Kd.event_run (v := .agg #[.int .i64 ((x : Int)), .int .i64 ((y : Int) - 1)]) (w1 := wo) rfl (by kernel_rfl) ?_)
              | ((with_reducible refine gate_dst (N := 20) rfl ?_); refine wpList_load_row rfl 66 (.tmp 2) rfl B rfl 66 (gc g) (0, 0) (.array 16 64) (blk_alloc hg' _) underlying66 rfl HI.out ?_)
              | (go_at_call 60; refine (HC.out _).mono ?_; rintro e w2 ⟨rfl, hb2⟩; have HB2 := Aside0.mk (below_then (below_alloc HB.out _) (below_alloc HB.out _).size hb2); clear hb2))
            go_roundw
            case rel => exact ⟨2+1, by go_num, by omega, ⟨fun j hj => by
              by_cases e : j = 2
              · subst e; exact HV.out
              · exact HA.out j (by omega)⟩, HB2⟩
            case measure => simp [intOf]
          | false =>
            have HC := Aside0.mk (fun W => has_calls g ((x : Int)) ((y : Int) - 1) W)
            rw [hv] at HC
            have HE := Aside0.mk (show edgeP g x y = true by unfold edgeP; rw [hp, nbAll_no 2 (by omega) hv]; rfl)
            clear hv
            go_wp2_with (first
              | ((with_reducible refine gate_dst (N := 19) rfl ?_); refine Kd.event_run (v := .agg #[.int .i64 ((x : Int)), .int .i64 ((y : Int) - 1)]) (w1 := wo) rfl (by kernel_rfl) ?_)
              | ((with_reducible refine gate_dst (N := 20) rfl ?_); refine wpList_load_row rfl 66 (.tmp 2) rfl B rfl 66 (gc g) (0, 0) (.array 16 64) (blk_alloc hg' _) underlying66 rfl HI.out ?_)
              | (go_at_call 60; refine (HC.out _).mono ?_; rintro e w2 ⟨rfl, hb2⟩; have HB2 := Aside0.mk (below_then (below_alloc HB.out _) (below_alloc HB.out _).size hb2); clear hb2))
            go_ret
            exact ⟨by rw [HE.out]; rfl, HB2.out⟩
        · clear hall
          have hn : nbI x y 3 = ((x : Int), (y : Int) + 1) := rfl
          cases hv : hasP g ((x : Int)) ((y : Int) + 1) with
          | true =>
            have HC := Aside0.mk (fun W => has_calls g ((x : Int)) ((y : Int) + 1) W)
            rw [hv] at HC
            have HV := Aside0.mk hv
            clear hv
            go_wp2_with (first
              | ((with_reducible refine gate_dst (N := 19) rfl ?_); refine Kd.event_run (v := .agg #[.int .i64 ((x : Int)), .int .i64 ((y : Int) + 1)]) (w1 := wo) rfl (by kernel_rfl) ?_)
              | ((with_reducible refine gate_dst (N := 20) rfl ?_); refine wpList_load_row rfl 66 (.tmp 2) rfl B rfl 66 (gc g) (0, 0) (.array 16 64) (blk_alloc hg' _) underlying66 rfl HI.out ?_)
              | (go_at_call 60; refine (HC.out _).mono ?_; rintro e w2 ⟨rfl, hb2⟩; have HB2 := Aside0.mk (below_then (below_alloc HB.out _) (below_alloc HB.out _).size hb2); clear hb2))
            go_roundw
            case rel => exact ⟨3+1, by go_num, by omega, ⟨fun j hj => by
              by_cases e : j = 3
              · subst e; exact HV.out
              · exact HA.out j (by omega)⟩, HB2⟩
            case measure => simp [intOf]
          | false =>
            have HC := Aside0.mk (fun W => has_calls g ((x : Int)) ((y : Int) + 1) W)
            rw [hv] at HC
            have HE := Aside0.mk (show edgeP g x y = true by unfold edgeP; rw [hp, nbAll_no 3 (by omega) hv]; rfl)
            clear hv
            go_wp2_with (first
              | ((with_reducible refine gate_dst (N := 19) rfl ?_); refine Kd.event_run (v := .agg #[.int .i64 ((x : Int)), .int .i64 ((y : Int) + 1)]) (w1 := wo) rfl (by kernel_rfl) ?_)
              | ((with_reducible refine gate_dst (N := 20) rfl ?_); refine wpList_load_row rfl 66 (.tmp 2) rfl B rfl 66 (gc g) (0, 0) (.array 16 64) (blk_alloc hg' _) underlying66 rfl HI.out ?_)
              | (go_at_call 60; refine (HC.out _).mono ?_; rintro e w2 ⟨rfl, hb2⟩; have HB2 := Aside0.mk (below_then (below_alloc HB.out _) (below_alloc HB.out _).size hb2); clear hb2))
            go_ret
            exact ⟨by rw [HE.out]; rfl, HB2.out⟩
  · replace hp : g (y * 16 + x) = false := by simpa using hp
    rw [hp] at hcg
    have hE : edgeP g x y = false := by unfold edgeP; rw [hp]; rfl
    go_enter Try.func83, Try.ntmps83
    go_wp2
    go_ret
    exact ⟨by rw [hE]; rfl, Below.refl _ _⟩

set_option maxHeartbeats 1600000 in
set_option maxRecDepth 100000 in
theorem edge_calls (g : Nat → Bool) (w : World) :
    Calls Try.prog 72 #[.agg (gc g)] w fun e w' => e = .returned (.agg (gc (gso (edgeP g) 256))) ∧ Below w.heap.size w w' := by
  have z0 := zero66
  have HB := Aside0.mk (below_alloc (below_alloc (Below.refl w.heap.size w) (.cells (gc g) 66)) (.cells (gc fun _ => false) 66))
  have HG := Aside0.mk ((GridAt.new w g).alloc (.cells (gc fun _ => false) 66))
  have HZ := Aside0.mk (GridAt.new (w.alloc (.cells (gc g) 66)) (fun _ => false))
  simp only [World.size_alloc] at HZ
  have HSZ := Aside0.mk (show (gc fun _ => false).size = (gc (gso (edgeP g) 256)).size by rw [gc_size, gc_size])
  have HO := Aside0.mk (gc_one (gso (edgeP g) 256))
  have HI := Aside0.mk (show (Try.prog.info? 66).map (·.size) = some (gc (gso (edgeP g) 256)).size by rw [gc_size]; exact info66)
  go_enter Try.func72, Try.ntmps72
  go_wp2_with (first
    | (go_at_call 62; refine (gridBy_calls 83 #[.pointer (some ⟨w.heap.size, 0, none⟩)] (edgeP g) ((w.alloc (.cells (gc g) 66)).alloc (.cells (gc fun _ => false) 66)) (enters_of Try.func83 (by kernel_rfl) rfl) (fun W x y hx hy hW => edge1_calls g x y hx hy w.heap.size W (HG.out.below hW))).mono ?_; rintro e w2 ⟨rfl, hb2⟩; have HZ2 : Aside0 (w2.heap[w.heap.size + 1]? = some (.cells (gc fun _ => false) 66 (0, 0))) := Aside0.mk (HZ.out.below hb2); have HB2 := Aside0.mk (below_then HB.out HB.out.size hb2); clear hb2)
    | ((with_reducible refine wpList_store_row rfl 66 (.tmp 2) (.tmp 4) rfl (w.heap.size + 1) (gc (gso (edgeP g) 256)) ?hx ?hy 66 (gc fun _ => false) HZ2.out HI.out HSZ.out HO.out ?_); (case hx => rfl); (case hy => rfl)))
  refine bodyPost_ret (results_cell_row rfl _ _ (w.heap.size + 1) 66 (gc (gso (edgeP g) 256)) (0, 0) (.array 16 64) rfl (GridAt.setRow (g := fun _ => false) HZ2.out (gso (edgeP g) 256)) underlying66 rfl HI.out) rfl ?_
  exact ⟨rfl, below_setRow HB2.out (Nat.le_succ _) _⟩
end Go.Proofs.Ytfgeickfheogoaa.Q

/- impl.gridOf: the grid of runs that are in range. -/
namespace Go.Proofs.Ytfgeickfheogoaa.Q
open Go.RowKit Go.Proofs.YtfgeickfheogoaaW.PrintWords Go.Proofs.YtfgeickfheogoaaW.PrintLast Go.Proofs.YtfgeickfheogoaaW.PrintMore
attribute [local go_sem] max2_int min2_int max_two min_two max_three min_three max_four min_four
set_option linter.unusedVariables false
set_option linter.unusedSimpArgs false

def runIn (r : S57) (p : Nat) : Bool := decide (r.f0 = ((p / 16 : Nat) : Int)) && decide (r.f1 ≤ ((p % 16 : Nat) : Int)) && decide (((p % 16 : Nat) : Int) < r.f2)
def gridF (l : List S57) (p : Nat) : Bool := l.any fun r => runIn r p
theorem gridF_succ (l : List S57) (k : Nat) (h : k < l.length) (p : Nat) : gridF (l.take (k + 1)) p = (gridF (l.take k) p || runIn l[k] p) := by
  unfold gridF
  rw [List.take_succ_eq_append_getElem h, List.any_append]; simp
/-- a run's pixels before column x -/
def runTo (r : S57) (x : Nat) (p : Nat) : Bool := decide (r.f0 = ((p / 16 : Nat) : Int)) && decide (r.f1 ≤ ((p % 16 : Nat) : Int)) && decide (p % 16 < x)
theorem runTo_step (r : S57) (Y x : Nat) (hY : r.f0 = (Y : Int)) (hx : x < 16) (hF : r.f1 ≤ (x : Int)) (g : Nat → Bool) (p : Nat) :
    (if p = Y * 16 + x then true else (g p || runTo r x p)) = (g p || runTo r (x + 1) p) := by
  unfold runTo
  by_cases e : p = Y * 16 + x
  · rw [if_pos e]
    have h1 : p % 16 = x := by omega
    have h2 : p / 16 = Y := by omega
    rw [h1, h2, hY]
    simp [hF]
  · rw [if_neg e]
    congr 1
    by_cases c1 : r.f0 = ((p / 16 : Nat) : Int)
    · have : decide (p % 16 < x) = decide (p % 16 < x + 1) := by
        rw [decide_eq_decide]
        have : p % 16 ≠ x := by omega
        omega
      rw [this]
    · rw [decide_eq_false c1, Bool.false_and, Bool.false_and, Bool.false_and]

set_option maxHeartbeats 8000000 in
set_option maxRecDepth 100000 in
theorem gridOf_calls (A0 : Option Addr) (c0 : Nat) (l0 : List S57) (w : World) (hr0 : Kd.C k57 w A0 l0.length l0) (hok : ∀ r ∈ l0, 0 ≤ r.f0 ∧ r.f0 < 16 ∧ 0 ≤ r.f1 ∧ r.f2 ≤ 16) :
    Calls Try.prog 59 #[.slice A0 l0.length c0] w fun e w' => e = .returned (.agg (gc (gridF l0))) ∧ Below w.heap.size w w' := by
  have hm : l0.length ≤ 9223372036854775807 := hr0.2.1
  have HR := Aside0.mk hr0
  have HOK := Aside0.mk hok
  clear hr0 hok
  have hu := Try.underlying57
  have z0 := zero66
  have hst := run_storeCells_new (P := Try.prog) (w.alloc (.cells (gc fun _ => false) 66)) 66 (gc fun _ => false) (gc fun _ => false) (by rw [gc_size]; exact info66) rfl (gc_one _)
  simp only [World.size_alloc] at hst
  go_enter Try.func59, Try.ntmps59
  go_wp2
  go_loopw [10] (fun v10 W => ∃ k : Nat, v10 = .int .i64 k ∧ k ≤ l0.length ∧ GridAt W (w.heap.size + 1) (gridF (l0.take k)) ∧ GridAt W w.heap.size (fun _ => false) ∧ Aside0 (Below w.heap.size w W)) (fun v10 _ => l0.length - (intOf v10).toNat)
  case atStart =>
    refine ⟨0, rfl, by omega, ?_, (GridAt.new _ _).alloc _, ⟨((Below.refl _ _).alloc (Nat.le_refl _) _).alloc (by simp) _⟩⟩
    have h := GridAt.new (w.alloc (.cells (gc fun _ => false) 66)) (fun _ => false)
    simp only [World.size_alloc] at h
    exact h.congr (fun p _ => by simp [gridF])
  case round =>
    obtain ⟨k, rfl, hk, hg, hg2, hb⟩ := hrel
    clear hst
    obtain ⟨wo, rfl⟩ : ∃ wo : World, wo = wr := ⟨_, rfl⟩
    by_cases hlt : k < l0.length
    · have hdk : decide ((k : Int) < (l0.length : Int)) = true := by simp; omega
      obtain ⟨ad, e, hx0, hx1, hx2⟩ := at_T57 HR.out (k : Int) (by omega) (by omega)
      cases e
      have er : rd_T57 l0 (k : Int) = l0[k] := by simp [rd_T57, hlt]
      have ho := HOK.out l0[k] (List.getElem_mem hlt)
      have HGS := Aside0.mk (gridF_succ l0 k hlt)
      rw [er, Int.toNat_natCast] at hx0 hx1 hx2
      clear er
      generalize l0[k] = r at *
      obtain ⟨Y, hY⟩ := Int.eq_ofNat_of_zero_le ho.1
      obtain ⟨F, hF⟩ := Int.eq_ofNat_of_zero_le ho.2.2.1
      have ho2 := ho.2.1
      have ho4 := ho.2.2.2
      clear ho
      rw [hY] at hx0 ho2
      rw [hF] at hx1
      replace hx0 := (hb.out.cell (World.block_lt_of_cell? w _ hx0)).trans hx0
      replace hx1 := (hb.out.cell (World.block_lt_of_cell? w _ hx1)).trans hx1
      replace hx2 := (hb.out.cell (World.block_lt_of_cell? w _ hx2)).trans hx2
      have HY := Aside0.mk hY
      have HF := Aside0.mk hF
      clear hY hF
      go_wp2
      have hlt2 := hg.lt
      go_loopw [6] (fun v6 W => ∃ x : Nat, v6 = .int .i64 x ∧ F ≤ x ∧ ((x : Int) ≤ r.f2 ∨ x = F) ∧ GridAt W (w.heap.size + 1) (fun p => gridF (l0.take k) p || runTo r x p) ∧ GridAt W w.heap.size (fun _ => false) ∧ Aside0 (W.heap[wo.heap.size]? = some (.cells #[.int .i64 (Y : Int), .int .i64 (F : Int), .int .i64 r.f2] 57 (0, 0))) ∧ Aside0 (Below w.heap.size w W)) (fun v6 _ => 17 - (intOf v6).toNat + (r.f2 - (intOf v6)).toNat)
      case atStart =>
        refine ⟨F, rfl, Nat.le_refl _, .inr rfl, (hg.alloc _).congr (fun p _ => ?_), hg2.alloc _, ⟨blk_new _ _⟩, ⟨below_alloc hb.out _⟩⟩
        have : runTo r F p = false := by
          unfold runTo
          rw [HF.out]
          by_cases c : ((F : Nat) : Int) ≤ ((p % 16 : Nat) : Int)
          · rw [decide_eq_false (show ¬ p % 16 < F by omega), Bool.and_false]
          · rw [decide_eq_false c, Bool.and_false, Bool.false_and]
        rw [this, Bool.or_false]
      case round =>
        clear hg hg2 hb
        obtain ⟨x, rfl, hFx, hx, hg, hg2, hr, hb⟩ := hrel
        have hc0 : wr.cell? ⟨wo.heap.size, 0, none⟩ = some (.int .i64 (Y : Int)) := (blk_cell hr.out 0).trans rfl
        have hc2 : wr.cell? ⟨wo.heap.size, 2, none⟩ = some (.int .i64 r.f2) := (blk_cell hr.out 2).trans rfl
        by_cases hxt : (x : Int) < r.f2
        · have hdx : decide ((x : Int) < r.f2) = true := by simpa using hxt
          have hcg := hg.cell (Y * 16 + x) (by omega)
          have hfg := hg.free (Y * 16 + x)
          have hx16 : x < 16 := by omega
          go_wp2
          go_roundw
          case rel => exact ⟨x + 1, by go_num, by omega, .inl (by omega), (hg.set_ (Y * 16 + x) true).congr (fun p _ => runTo_step r Y x HY.out hx16 (by rw [HF.out]; omega) _ p), blk_far hg2 (by simp) _, ⟨blk_far hr.out (by simp; omega) _⟩, ⟨below_set hb.out (by omega)⟩⟩
          case measure => simp [intOf]; omega
        · have hdx : decide ((x : Int) < r.f2) = false := by simpa using hxt
          go_wp2
          go_roundw
          case rel =>
            refine ⟨k + 1, by go_num, by omega, hg.congr (fun p _ => ?_), hg2, hb⟩
            rw [HGS.out]
            congr 1
            unfold runTo runIn
            rw [HF.out]
            by_cases c : ((F : Nat) : Int) ≤ ((p % 16 : Nat) : Int)
            · congr 1
              rw [decide_eq_decide]
              omega
            · rw [decide_eq_false c, Bool.and_false, Bool.false_and, Bool.false_and]
          case measure => simp [intOf]; omega
    · have hdk : decide ((k : Int) < (l0.length : Int)) = false := by simp; omega
      have hkl : k = l0.length := by omega
      subst hkl
      have hi : (Try.prog.info? 66).map (·.size) = some (gc (gridF l0)).size := by rw [gc_size]; exact info66
      have hold : (gc fun _ => false).size = (gc (gridF l0)).size := by rw [gc_size, gc_size]
      have h1 := gc_one (gridF l0)
      rw [List.take_length] at hg
      have hg' : wo.heap[w.heap.size + 1]? = some (.cells (gc (gridF l0)) 66 (0, 0)) := hg
      have hg2' : wo.heap[w.heap.size]? = some (.cells (gc fun _ => false) 66 (0, 0)) := hg2
      go_wp2_with (first
        | ((with_reducible refine gate_dst (N := 28) rfl ?_); refine wpList_load_row rfl 66 (.tmp 3) rfl (w.heap.size + 1) rfl 66 (gc (gridF l0)) (0, 0) (.array 16 64) hg' underlying66 rfl hi ?_)
        | ((with_reducible refine wpList_store_row rfl 66 (.tmp 2) (.tmp 28) rfl w.heap.size (gc (gridF l0)) ?hx ?hy 66 (gc fun _ => false) hg2' hi hold h1 ?_); (case hx => rfl); (case hy => rfl)))
      refine bodyPost_ret (results_cell_row rfl _ _ w.heap.size 66 (gc (gridF l0)) (0, 0) (.array 16 64) rfl (hg2.setRow (gridF l0)) underlying66 rfl hi) rfl ?_
      exact ⟨rfl, below_setRow hb.out (Nat.le_refl _) _⟩
end Go.Proofs.Ytfgeickfheogoaa.Q

/- Runs: what the program and the reference take for a region. -/
namespace Go.Proofs.Ytfgeickfheogoaa.Pure
open Go.RowKit Go.Proofs.Ytfgeickfheogoaa.Q Go.Proofs.YtfgeickfheogoaaW.PrintWords Go.Proofs.YtfgeickfheogoaaW.PrintLast Go.Proofs.YtfgeickfheogoaaW.PrintMore
set_option linter.unusedVariables false
set_option linter.unusedSimpArgs false

abbrev Run := S57
theorem rdRun (l : List Run) (i : Nat) (h : i < l.length) : rd_T57 l (i : Int) = l[i] := by simp [rd_T57, h]
def runOK (r : Run) : Bool := decide (0 ≤ r.f0) && decide (r.f0 < 16) && decide (0 ≤ r.f1) && decide (r.f1 < r.f2) && decide (r.f2 ≤ 16)
theorem runOK_iff (r : Run) : runOK r = true ↔ 0 ≤ r.f0 ∧ r.f0 < 16 ∧ 0 ≤ r.f1 ∧ r.f1 < r.f2 ∧ r.f2 ≤ 16 := by
  simp [runOK, and_assoc]
def runAfter (p r : Run) : Bool := decide (p.f0 < r.f0) || (decide (p.f0 = r.f0) && decide (p.f2 < r.f1))
theorem runAfter_iff (p r : Run) : runAfter p r = true ↔ p.f0 < r.f0 ∨ (p.f0 = r.f0 ∧ p.f2 < r.f1) := by
  simp [runAfter]
/-- Runs of a region: each in range, and behind the one before it. -/
def validFrom : Option Run → List Run → Bool
  | _, [] => true
  | none, r :: rs => runOK r && validFrom (some r) rs
  | some p, r :: rs => (runOK r && runAfter p r) && validFrom (some r) rs
def validR (l : List Run) : Bool := validFrom none l
def before (l : List Run) (i : Nat) : Option Run := if i = 0 then none else l[i - 1]?
theorem before_zero (l : List Run) : before l 0 = none := rfl
theorem before_succ (l : List Run) (i : Nat) (h : i < l.length) : before l (i + 1) = some l[i] := by simp [before, h]
theorem validFrom_at (l : List Run) (i : Nat) (h : i < l.length) : validFrom (before l i) (l.drop i) = ((runOK l[i] && (match before l i with | none => true | some p => runAfter p l[i])) && validFrom (before l (i + 1)) (l.drop (i + 1))) := by
  rw [List.drop_eq_getElem_cons h, before_succ l i h]
  cases before l i with
  | none => simp [validFrom]
  | some p => rfl
theorem inRange_eq' (n a b : Int) : spec_inRange.f n a b = some (decide (a ≤ n) && decide (n ≤ b)) := by
  unfold spec_inRange.f; by_cases h : a ≤ n <;> simp [h]
theorem ival_j1 (l : List Run) (i k : Nat) (hl : l.length ≤ 9223372036854775807) (h : i < l.length) (b : Bool) :
    impl_isRegion.j1 (k + 1) l i l (l.length : Int) i b l[i].f0 l[i].f1 l[i].f2 = if b = true then some false else if (match before l i with | none => true | some p => runAfter p l[i]) = true then impl_isRegion.l0 k l l (l.length : Int) ((i + 1 : Nat) : Int) else some false := by
  simp only [impl_isRegion.j1]
  by_cases hb : b = true
  · rw [if_pos hb, if_pos hb]
  rw [if_neg hb, if_neg hb, w64n i (by omega)]
  cases i with
  | zero => simp [before]
  | succ i =>
    have e : ((i + 1 : Nat) : Int) - 1 = (i : Int) := by omega
    rw [if_neg (by omega), w64 (x := ((i + 1 : Nat) : Int) - 1) (by omega) (by omega), e, if_pos (by omega), if_pos (by omega), rdRun l i (by omega), before_succ l i (by omega)]
    simp only
    by_cases c1 : l[i + 1].f0 < l[i].f0
    · rw [if_pos c1, if_neg (by rw [runAfter_iff]; omega)]
    rw [if_neg c1]
    by_cases c2 : l[i + 1].f0 = l[i].f0
    · rw [if_pos c2]
      by_cases c3 : l[i + 1].f1 ≤ l[i].f2
      · rw [if_pos c3, if_neg (by rw [runAfter_iff]; omega)]
      · rw [if_neg c3, if_pos (by rw [runAfter_iff]; omega)]
    · rw [if_neg c2, if_pos (by rw [runAfter_iff]; omega)]
theorem impl_isRegion_eq (l : List Run) (hl : l.length ≤ 9223372036854775807) (k : Nat) (hk : 2 * l.length + 1 < k) : impl_isRegion.f k l = some (validR l) := by
  have key : ∀ d i k, i + d = l.length → 2 * d < k → impl_isRegion.l0 k l l (l.length : Int) (i : Int) = some (validFrom (before l i) (l.drop i)) := by
    intro d
    induction d with
    | zero =>
      intro i k hi hk
      obtain ⟨k, rfl⟩ : ∃ m, k = m + 1 := ⟨k - 1, by omega⟩
      simp only [impl_isRegion.l0]
      rw [if_neg (by omega), List.drop_of_length_le (by omega)]
      cases before l i <;> rfl
    | succ d ih =>
      intro i k hi hk
      obtain ⟨k, rfl⟩ : ∃ m, k = m + 1 + 1 := ⟨k - 2, by omega⟩
      have hlt : i < l.length := by omega
      have hn := ih (i + 1) k (by omega) (by omega)
      rw [validFrom_at l i hlt]
      simp only [impl_isRegion.l0]
      rw [if_pos (by omega), if_pos (by omega), rdRun l i hlt]
      simp only [if_pos (show (i : Int) < (l.length : Int) by omega), ival_j1 l i k hl hlt, hn]
      by_cases c : runOK l[i] = true
      · rw [c, Bool.true_and]
        rw [runOK_iff] at c
        rw [if_neg (by omega), if_neg (by omega), if_neg (by omega), if_neg (by omega), if_neg (by simp; omega)]
        cases (match before l i with | none => true | some p => runAfter p l[i]) <;> rfl
      · have hc := c
        rw [runOK_iff] at c
        simp only [Bool.not_eq_true] at hc
        rw [hc, Bool.false_and, Bool.false_and]
        try simp only [if_true]
        by_cases c1 : l[i].f0 < 0
        · rw [if_pos c1]
        rw [if_neg c1]
        by_cases c2 : l[i].f0 ≥ 16
        · rw [if_pos c2]
        rw [if_neg c2]
        by_cases c3 : l[i].f1 < 0
        · rw [if_pos c3]
        rw [if_neg c3]
        by_cases c4 : l[i].f2 ≤ l[i].f1
        · rw [if_pos c4]
        rw [if_neg c4, if_pos (by simp; omega)]
  unfold impl_isRegion.f
  have := key l.length 0 k (by omega) (by omega)
  simpa [before_zero, validR] using this
theorem validFrom_ok (l : List Run) : ∀ p, validFrom p l = true → ∀ r ∈ l, runOK r = true := by
  induction l with
  | nil => intro p _ r hr; cases hr
  | cons x xs ih =>
    intro p h r hr
    have h2 : runOK x = true ∧ validFrom (some x) xs = true := by
      cases p with
      | none => simpa [validFrom] using h
      | some p => simp [validFrom] at h; exact ⟨h.1.1, h.2⟩
    rcases List.mem_cons.1 hr with rfl | hr
    · exact h2.1
    · exact ih _ h2.2 r hr
theorem valid_ok {l : List Run} (h : validR l = true) : ∀ r ∈ l, runOK r = true := validFrom_ok l none h
end Go.Proofs.Ytfgeickfheogoaa.Pure

/- impl.RegionHas: false for runs of no region; else whether the pixel is in their grid. -/
namespace Go.Proofs.Ytfgeickfheogoaa.Q
open Go.RowKit Go.Proofs.YtfgeickfheogoaaW.PrintWords Go.Proofs.YtfgeickfheogoaaW.PrintLast Go.Proofs.YtfgeickfheogoaaW.PrintMore
attribute [local go_sem] max2_int min2_int max_two min_two max_three min_three max_four min_four
set_option linter.unusedVariables false
set_option linter.unusedSimpArgs false
open Go.Proofs.Ytfgeickfheogoaa.Pure

theorem valid_ranges {l : List S57} (h : validR l = true) : ∀ r ∈ l, 0 ≤ r.f0 ∧ r.f0 < 16 ∧ 0 ≤ r.f1 ∧ r.f2 ≤ 16 := by
  intro r hr
  have := (runOK_iff r).1 (valid_ok h r hr)
  omega
def impl_RegionHas.f (l0 : List S57) (a1 a2 : Int) : Option Bool := some (validR l0 && hasP (gridF l0) a1 a2)

set_option maxHeartbeats 2000000 in
set_option maxRecDepth 100000 in
theorem impl_RegionHas.calls (A0 : Option Addr) (c0 : Nat) (l0 : List S57) (a1 a2 : Int) (r : Bool) (w : World) (hr0 : Kd.C k57 w A0 l0.length l0) (hc0 : l0.length ≤ c0) (h : impl_RegionHas.f l0 a1 a2 = some r) :
    Calls Try.prog 25 #[.slice A0 l0.length c0, .int .i64 a1, .int .i64 a2] w fun e w' => e = .returned (.bool r) ∧ Below w.heap.size w w' := by
  obtain rfl := Option.some.inj h
  clear h
  have HC := Aside0.mk (impl_isRegion.calls (2 * l0.length + 2) A0 c0 l0 (validR l0) w hr0 hc0 (impl_isRegion_eq l0 hr0.2.1 _ (by omega)))
  have HR := Aside0.mk hr0
  clear hr0
  by_cases hv : validR l0 = true
  · have HV := Aside0.mk (valid_ranges hv)
    rw [hv] at HC ⊢
    clear hv
    go_enter Try.func25, Try.ntmps25
    go_wp2_with (first
      | (go_at_call 55; refine HC.out.mono ?_; rintro e w1 ⟨rfl, hb1⟩; have HB1 := Aside0.mk hb1; clear hb1)
      | (go_at_call 59; refine (gridOf_calls _ _ _ _ (Kd.C_below HR.out HB1.out) HV.out).mono ?_; rintro e w2 ⟨rfl, hb2⟩; have HB2 := Aside0.mk (below_then HB1.out HB1.out.size hb2); clear hb2)
      | (go_at_call 60; refine (has_calls _ _ _ _).mono ?_; rintro e w3 ⟨rfl, hb3⟩; have HB3 := Aside0.mk (below_then HB2.out HB2.out.size hb3); clear hb3))
    go_ret
    exact ⟨by rw [Bool.true_and]; rfl, HB3.out⟩
  · replace hv : validR l0 = false := by simpa using hv
    rw [hv] at HC ⊢
    clear hv
    go_enter Try.func25, Try.ntmps25
    go_wp2_with (first
      | (go_at_call 55; refine HC.out.mono ?_; rintro e w1 ⟨rfl, hb1⟩; have HB1 := Aside0.mk hb1; clear hb1))
    go_ret
    exact ⟨by rw [Bool.false_and]; rfl, HB1.out⟩
end Go.Proofs.Ytfgeickfheogoaa.Q

/- impl.EdgeOf: the runs of the edge of a region's grid. -/
namespace Go.Proofs.Ytfgeickfheogoaa.Q
open Go.RowKit Go.Proofs.YtfgeickfheogoaaW.PrintWords Go.Proofs.YtfgeickfheogoaaW.PrintLast Go.Proofs.YtfgeickfheogoaaW.PrintMore
attribute [local go_sem] max2_int min2_int max_two min_two max_three min_three max_four min_four
set_option linter.unusedVariables false
set_option linter.unusedSimpArgs false
open Go.Proofs.Ytfgeickfheogoaa.Pure

def impl_EdgeOf.f (l0 : List S57) : Option (List S57) := some (if validR l0 = true then runsL (gso (edgeP (gridF l0)) 256) else [])

set_option maxHeartbeats 1000000 in
set_option maxRecDepth 100000 in
theorem impl_EdgeOf.calls (A0 : Option Addr) (c0 : Nat) (l0 : List S57) (r : List S57) (w : World) (hr0 : Kd.C k57 w A0 l0.length l0) (hc0 : l0.length ≤ c0) (h : impl_EdgeOf.f l0 = some r) :
    Calls Try.prog 36 #[.slice A0 l0.length c0] w fun e w' => ∃ v0_ : Value, e = .returned (v0_) ∧ Kd.R k57 57 w' w.heap.size (fun _ => True) v0_ r ∧ Below w.heap.size w w' := by
  obtain rfl := Option.some.inj h
  clear h
  have HC := Aside0.mk (impl_isRegion.calls (2 * l0.length + 2) A0 c0 l0 (validR l0) w hr0 hc0 (impl_isRegion_eq l0 hr0.2.1 _ (by omega)))
  have HR := Aside0.mk hr0
  clear hr0
  by_cases hv : validR l0 = true
  · rw [if_pos hv]
    have HV := Aside0.mk (valid_ranges hv)
    rw [hv] at HC
    clear hv
    go_enter Try.func36, Try.ntmps36
    go_wp2_with (first
      | (go_at_call 55; refine HC.out.mono ?_; rintro e w1 ⟨rfl, hb1⟩; have HB1 := Aside0.mk hb1; clear hb1)
      | (go_at_call 59; refine (gridOf_calls _ _ _ _ (Kd.C_below HR.out HB1.out) HV.out).mono ?_; rintro e w2 ⟨rfl, hb2⟩; have HB2 := Aside0.mk (below_then HB1.out HB1.out.size hb2); clear hb2)
      | (go_at_call 72; refine (edge_calls _ _).mono ?_; rintro e w3 ⟨rfl, hb3⟩; have HB3 := Aside0.mk (below_then HB2.out HB2.out.size hb3); clear hb3)
      | (go_at_call 65; refine (runs_calls _ _).mono ?_; rintro e w4 ⟨v4, rfl, hr4, hb4⟩; have HR4 := Aside0.mk (Kd.R_lower hr4 HB3.out.size); have HB4 := Aside0.mk (below_then HB3.out HB3.out.size hb4); clear hb4 hr4))
    go_ret
    exact ⟨v4, rfl, HR4.out, HB4.out⟩
  · replace hv : validR l0 = false := by simpa using hv
    rw [if_neg (by simp [hv])]
    rw [hv] at HC
    clear hv
    go_enter Try.func36, Try.ntmps36
    go_wp2_with (first
      | (go_at_call 55; refine HC.out.mono ?_; rintro e w1 ⟨rfl, hb1⟩; have HB1 := Aside0.mk hb1; clear hb1))
    go_ret
    exact ⟨_, rfl, Kd.R_nil _ _ _ _ _, HB1.out⟩
end Go.Proofs.Ytfgeickfheogoaa.Q

namespace Go.Proofs.Ytfgeickfheogoaa.Q
open Go.RowKit Go.Proofs.YtfgeickfheogoaaW.PrintWords Go.Proofs.YtfgeickfheogoaaW.PrintLast Go.Proofs.YtfgeickfheogoaaW.PrintMore
attribute [local go_sem] max2_int min2_int max_two min_two max_three min_three max_four min_four
set_option linter.unusedVariables false
set_option linter.unusedSimpArgs false
/-! ### laws_FnEdgeOfBox: function 9 -/
def laws_FnEdgeOfBox.j0 : Nat → List (S57) → Bool → List (S57) → Bool → Bool → Int → Int → Int → Int → Option (Bool)
  | 0, _, _, _, _, _, _, _, _, _ => none
  | k + 1, x4, x5, x6, x7, x35, x10006000, x10006001, x10006002, x10006003 => if x35 = true then ((laws_equalRuns.f k x4 x6).bind fun t10015 => (if t10015 = true then (some (x5 == x7)) else (some false))) else ((impl_EdgeOf.f x4).bind fun t10016 => ((impl_AreaOf.f k t10016).bind fun t10019 => (some (t10019 == (wrap64 ((wrap64 (x10006002 * x10006003)) - (wrap64 ((mx 0 (wrap64 (x10006002 - 2))) * (mx 0 (wrap64 (x10006003 - 2)))))))))))
def laws_FnEdgeOfBox.f (k : Nat) (l0 : List Int) : Option (Bool) := if (l0.length : Int) > 1048576 then (some true) else ((spec_DrawBoxRegion.f k l0).bind fun bt10001 => ((impl_BoxRegion.f bt10001.1 bt10001.2.1 bt10001.2.2.1 bt10001.2.2.2).bind fun bt10006 => ((spec_BoxRegion.f k bt10001.1 bt10001.2.1 bt10001.2.2.1 bt10001.2.2.2).bind fun bt10010 => ((laws_equalRuns.f k bt10006.1 bt10010.1).bind fun t10014 => (if t10014 = true then (if (bt10006.2 != bt10010.2) = true then (laws_FnEdgeOfBox.j0 k bt10006.1 bt10006.2 bt10010.1 bt10010.2 true bt10001.1 bt10001.2.1 bt10001.2.2.1 bt10001.2.2.2) else (laws_FnEdgeOfBox.j0 k bt10006.1 bt10006.2 bt10010.1 bt10010.2 (!bt10006.2) bt10001.1 bt10001.2.1 bt10001.2.2.1 bt10001.2.2.2)) else (laws_FnEdgeOfBox.j0 k bt10006.1 bt10006.2 bt10010.1 bt10010.2 true bt10001.1 bt10001.2.1 bt10001.2.2.1 bt10001.2.2.2))))))
theorem laws_FnEdgeOfBox.mono_l : ∀ k, (∀ y0 y1 y2 y3 y4 y5 y6 y7 y8, LeO (laws_FnEdgeOfBox.j0 k y0 y1 y2 y3 y4 y5 y6 y7 y8) (laws_FnEdgeOfBox.j0 (k + 1) y0 y1 y2 y3 y4 y5 y6 y7 y8))
  | 0 => fun _ _ _ _ _ _ _ _ _ r h => by simp [laws_FnEdgeOfBox.j0] at h
  | k + 1 => by
    have ih0 := laws_FnEdgeOfBox.mono_l k
    · intro y0 y1 y2 y3 y4 y5 y6 y7 y8
      unfold laws_FnEdgeOfBox.j0
      repeat' first
      | (with_reducible exact ih0 _ _ _ _ _ _ _ _ _)
      | (with_reducible exact impl_AreaOf.mono _ _)
      | (with_reducible exact laws_equalRuns.mono _ _ _)
      | (with_reducible exact spec_BoxRegion.mono _ _ _ _ _)
      | (with_reducible exact spec_DrawBoxRegion.mono _ _)
      | (with_reducible exact LeO.refl _)
      | (with_reducible exact LeO.none _)
      | (with_reducible refine LeO.ite ?_ ?_)
      | (with_reducible refine LeO.bind ?_ (fun _ => ?_))
      | exact ih0 _ _ _ _ _ _ _ _ _
      | exact impl_AreaOf.mono _ _
      | exact laws_equalRuns.mono _ _ _
      | exact spec_BoxRegion.mono _ _ _ _ _
      | exact spec_DrawBoxRegion.mono _ _
      | exact LeO.none _
      | refine LeO.ite ?_ ?_
      | refine LeO.bind ?_ (fun _ => ?_)
theorem laws_FnEdgeOfBox.mono : ∀ a0 k, LeO (laws_FnEdgeOfBox.f k a0) (laws_FnEdgeOfBox.f (k + 1) a0) := by
  intro a0 k
  have ih0 := laws_FnEdgeOfBox.mono_l k
  unfold laws_FnEdgeOfBox.f
  repeat' first
      | (with_reducible exact ih0 _ _ _ _ _ _ _ _ _)
      | (with_reducible exact impl_AreaOf.mono _ _)
      | (with_reducible exact laws_equalRuns.mono _ _ _)
      | (with_reducible exact spec_BoxRegion.mono _ _ _ _ _)
      | (with_reducible exact spec_DrawBoxRegion.mono _ _)
      | (with_reducible exact LeO.refl _)
      | (with_reducible exact LeO.none _)
      | (with_reducible refine LeO.ite ?_ ?_)
      | (with_reducible refine LeO.bind ?_ (fun _ => ?_))
      | exact ih0 _ _ _ _ _ _ _ _ _
      | exact impl_AreaOf.mono _ _
      | exact laws_equalRuns.mono _ _ _
      | exact spec_BoxRegion.mono _ _ _ _ _
      | exact spec_DrawBoxRegion.mono _ _
      | exact LeO.none _
      | refine LeO.ite ?_ ?_
      | refine LeO.bind ?_ (fun _ => ?_)
def laws_FnEdgeOfBox.T8 : Bool × List (List Nat × List Nat) := (true, [([], []), ([0], [0]), ([1, 1], [1]), ([], []), ([3], [3]), ([], []), ([5], [5]), ([4, 6], [4, 6]), ([], []), ([8], [8]), ([9], [9]), ([10], [10]), ([], []), ([12], [12]), ([13], [13]), ([14], [14]), ([11, 15], [11, 15]), ([7, 16], [7, 16]), ([2, 17], [2, 17]), ([18, 2, 0, 1, 2, 3, 4, 5, 6, 7, 8, 9, 10, 11, 12, 13, 14, 15, 16, 17, 18], [18])])
def laws_FnEdgeOfBox.B8 : List Nat := [0, 1, 3, 0, 8, 0, 32, 120, 0, 256, 768, 1792, 0, 4096, 12288, 28672, 65280, 131064, 262143, 524287]
theorem laws_FnEdgeOfBox.tab8 : rtab .any (opsOf Try.f9 8) = laws_FnEdgeOfBox.T8 := by kernel_rfl
theorem laws_FnEdgeOfBox.bits8 : waitsOk laws_FnEdgeOfBox.T8.2 laws_FnEdgeOfBox.B8 = true := by kernel_rfl
set_option maxHeartbeats 8000000 in
set_option maxRecDepth 100000 in
theorem laws_FnEdgeOfBox.calls (k : Nat) (A0 : Option Addr) (c0 : Nat) (l0 : List Int) (r : Bool) (w : World) (hr0 : Kd.C (Kd.int .u8) w A0 l0.length l0) (hc0 : l0.length ≤ c0) (h : laws_FnEdgeOfBox.f k l0 = some r) :
    Calls Try.prog 9 #[.slice A0 l0.length c0] w fun e w' => e = .returned (.bool r) ∧ Below w.heap.size w w' := by
  have hu36 := Try.underlying36
  have HR0 := Aside0.mk hr0
  have HC0 := Aside0.mk hc0
  clear hr0 hc0
  have HB := Aside0.mk (Below.refl w.heap.size w)
  have H : (if (l0.length : Int) > 1048576 then (some true) else ((spec_DrawBoxRegion.f k l0).bind fun bt10001 => ((impl_BoxRegion.f bt10001.1 bt10001.2.1 bt10001.2.2.1 bt10001.2.2.2).bind fun bt10006 => ((spec_BoxRegion.f k bt10001.1 bt10001.2.1 bt10001.2.2.1 bt10001.2.2.2).bind fun bt10010 => ((laws_equalRuns.f k bt10006.1 bt10010.1).bind fun t10014 => (if t10014 = true then (if (bt10006.2 != bt10010.2) = true then (laws_FnEdgeOfBox.j0 k bt10006.1 bt10006.2 bt10010.1 bt10010.2 true bt10001.1 bt10001.2.1 bt10001.2.2.1 bt10001.2.2.2) else (laws_FnEdgeOfBox.j0 k bt10006.1 bt10006.2 bt10010.1 bt10010.2 (!bt10006.2) bt10001.1 bt10001.2.1 bt10001.2.2.1 bt10001.2.2.2)) else (laws_FnEdgeOfBox.j0 k bt10006.1 bt10006.2 bt10010.1 bt10010.2 true bt10001.1 bt10001.2.1 bt10001.2.2.1 bt10001.2.2.2))))))) = some r := h
  clear h
  by_cases c2 : (l0.length : Int) > 1048576
  · rw [if_pos c2] at H
    have c2b0 : decide (1048576 < (l0.length : Int)) = true := decide_eq_true c2
    have c2b1 : decide (1048576 < l0.length) = true := decide_eq_true (by omega)
    clear c2
    obtain rfl := Option.some.inj H
    go_enter Try.func9, Try.ntmps9
    go_wp2
    go_ret
    exact ⟨by first | rfl | (simp [errW_none, errW_some] <;> rfl) | (simp [*, errW_none, errW_some] <;> rfl), by repeat (first | (with_reducible first | exact HB.out | apply below_alloc | apply pw_below_drewN | apply below_drew1) | exact HB.out)⟩
  · rw [if_neg c2] at H
    have c2b0 : decide (1048576 < (l0.length : Int)) = false := decide_eq_false c2
    have c2b1 : decide (1048576 < l0.length) = false := decide_eq_false (by omega)
    clear c2
    replace H := Option.bind_eq_some_iff.mp H
    obtain ⟨⟨t10001, t10002, t10003, t10004⟩, A30, H⟩ := H
    replace H : ((impl_BoxRegion.f t10001 t10002 t10003 t10004).bind fun bt10006 => ((spec_BoxRegion.f k t10001 t10002 t10003 t10004).bind fun bt10010 => ((laws_equalRuns.f k bt10006.1 bt10010.1).bind fun t10014 => (if t10014 = true then (if (bt10006.2 != bt10010.2) = true then (laws_FnEdgeOfBox.j0 k bt10006.1 bt10006.2 bt10010.1 bt10010.2 true t10001 t10002 t10003 t10004) else (laws_FnEdgeOfBox.j0 k bt10006.1 bt10006.2 bt10010.1 bt10010.2 (!bt10006.2) t10001 t10002 t10003 t10004)) else (laws_FnEdgeOfBox.j0 k bt10006.1 bt10006.2 bt10010.1 bt10010.2 true t10001 t10002 t10003 t10004))))) = some r := H
    have A3 := Aside0.mk A30
    clear A30
    replace H := Option.bind_eq_some_iff.mp H
    obtain ⟨⟨t10006, t10009⟩, A40, H⟩ := H
    replace H : ((spec_BoxRegion.f k t10001 t10002 t10003 t10004).bind fun bt10010 => ((laws_equalRuns.f k t10006 bt10010.1).bind fun t10014 => (if t10014 = true then (if (t10009 != bt10010.2) = true then (laws_FnEdgeOfBox.j0 k t10006 t10009 bt10010.1 bt10010.2 true t10001 t10002 t10003 t10004) else (laws_FnEdgeOfBox.j0 k t10006 t10009 bt10010.1 bt10010.2 (!t10009) t10001 t10002 t10003 t10004)) else (laws_FnEdgeOfBox.j0 k t10006 t10009 bt10010.1 bt10010.2 true t10001 t10002 t10003 t10004)))) = some r := H
    have A4 := Aside0.mk A40
    clear A40
    replace H := Option.bind_eq_some_iff.mp H
    obtain ⟨⟨t10010, t10013⟩, A50, H⟩ := H
    replace H : ((laws_equalRuns.f k t10006 t10010).bind fun t10014 => (if t10014 = true then (if (t10009 != t10013) = true then (laws_FnEdgeOfBox.j0 k t10006 t10009 t10010 t10013 true t10001 t10002 t10003 t10004) else (laws_FnEdgeOfBox.j0 k t10006 t10009 t10010 t10013 (!t10009) t10001 t10002 t10003 t10004)) else (laws_FnEdgeOfBox.j0 k t10006 t10009 t10010 t10013 true t10001 t10002 t10003 t10004))) = some r := H
    have A5 := Aside0.mk A50
    clear A50
    have HC6 := Aside0.mk H
    clear H
    go_enter Try.func9, Try.ntmps9
    go_upto_region 6 with (first | ((with_reducible refine gate_callee (f := 34) rfl ?_); refine goesL_ (some 12) rfl rfl Try.func34 (by kernel_rfl) rfl #[.slice A0 l0.length c0] rfl (by (try simp only [List.map_toArray, List.map_cons, List.map_nil]); first | done | rfl | (simp only [List.length_drop, List.length_take]; rfl)) ?_; (with_reducible refine (spec_DrawBoxRegion.calls k _ _ l0 t10001 t10002 t10003 t10004 _ ?side1 ?side2 A3.out).mono ?_); (case side1 => repeat (first | exact HR0.out | (with_reducible refine Kd.C_alloc ?_ _) | (with_reducible refine Kd.C_drewN ?_ _) | (with_reducible refine Kd.C_drew ?_))); (case side2 => exact HC0.out); rintro e w7 ⟨rfl, hb⟩; refine ⟨_, rfl, ?_⟩; have n0_ := Aside0.mk (below_step (by repeat (first | (with_reducible first | exact HB.out | apply below_alloc | apply pw_below_drewN | apply below_drew1) | exact HB.out)) hb); clear HB; have HB := n0_; clear n0_; (try clear hb); (try clear hb2); (try clear hk); (try clear hi)) | ((with_reducible refine gate_dst (N := 3) rfl ?_); refine box_event ?hg (N := 3) ?hd (cs := #[.int .i64 0, .int .i64 0, .int .i64 0, .int .i64 0]) (t := 36) ?hr ?_; (case hd => rfl); (case hg => rfl); (case hr => first | (go_simp; done) | (go_simp; rfl)); intro gb10005 hg w8 hbox hb; have n0_ := Aside0.mk (below_step (by repeat (first | (with_reducible first | exact HB.out | apply below_alloc | apply pw_below_drewN | apply below_drew1) | exact HB.out)) hb); have n1_ := Aside0.mk (hbox); have n2_ := Aside0.mk ((by rw [hg]; exact (below_size (by repeat (first | (with_reducible first | exact HB.out | apply below_alloc | apply pw_below_drewN | apply below_drew1) | exact HB.out))) : w.heap.size ≤ gb10005)); have n3_ := Aside0.mk ((by rw [hg]; exact (below_size (by repeat (first | (with_reducible first | exact HB.out | apply below_alloc | apply pw_below_drewN | apply below_drew1) | exact HB.out))) : w.heap.size ≤ gb10005)); clear HB; have HB := n0_; have BK10005 := n1_; have GW10005 := n2_; have GE10005 := n3_; clear n0_ n1_ n2_ n3_; clear hb hbox hg; have hcz9_0 : w8.cell? ⟨gb10005, 0, none⟩ = some (.int .i64 0) := (blk_cell BK10005.out 0).trans rfl; have hcz9_1 : w8.cell? ⟨gb10005, 1, none⟩ = some (.int .i64 0) := (blk_cell BK10005.out 1).trans rfl; have hcz9_2 : w8.cell? ⟨gb10005, 2, none⟩ = some (.int .i64 0) := (blk_cell BK10005.out 2).trans rfl; have hcz9_3 : w8.cell? ⟨gb10005, 3, none⟩ = some (.int .i64 0) := (blk_cell BK10005.out 3).trans rfl; have hfz9_0 := blk_frozen BK10005.out 0; have hfz9_1 := blk_frozen BK10005.out 1; have hfz9_2 := blk_frozen BK10005.out 2; have hfz9_3 := blk_frozen BK10005.out 3) | ((with_reducible refine gate_callee (f := 28) rfl ?_); refine goesL_ (some 15) rfl rfl Try.func28 (by kernel_rfl) rfl #[.agg #[.int .i64 t10001, .int .i64 t10002, .int .i64 t10003, .int .i64 t10004]] rfl (by (try simp only [List.map_toArray, List.map_cons, List.map_nil]); first | done | rfl | (simp only [List.length_drop, List.length_take]; rfl)) ?_; (with_reducible refine (impl_BoxRegion.calls t10001 t10002 t10003 t10004 t10006 t10009 _ A4.out).mono ?_); rintro e w10 ⟨v10007, rfl, ho0, hb⟩; refine ⟨_, rfl, ?_⟩; have n0_ := Aside0.mk (Kd.R_lower ho0 (below_size (by repeat (first | (with_reducible first | exact HB.out | apply below_alloc | apply pw_below_drewN | apply below_drew1 | refine below_set ?_ GE10005.out) | exact HB.out)))); have n1_ := Aside0.mk (blk_below (g := gb10005) (o := .cells #[.int .i64 t10001, .int .i64 t10002, .int .i64 t10003, .int .i64 t10004] 36 (0, 0)) (by (with_reducible repeat (first | refine blk_drewN ?_ _ | refine blk_drew ?_ | refine blk_alloc ?_ _)); refine blk_put (cs := #[.int .i64 t10001, .int .i64 t10002, .int .i64 t10003, .int .i64 0]) ?_ 3 _ rfl; (with_reducible repeat (first | refine blk_drewN ?_ _ | refine blk_drew ?_ | refine blk_alloc ?_ _)); refine blk_put (cs := #[.int .i64 t10001, .int .i64 t10002, .int .i64 0, .int .i64 0]) ?_ 2 _ rfl; (with_reducible repeat (first | refine blk_drewN ?_ _ | refine blk_drew ?_ | refine blk_alloc ?_ _)); refine blk_put (cs := #[.int .i64 t10001, .int .i64 0, .int .i64 0, .int .i64 0]) ?_ 1 _ rfl; (with_reducible repeat (first | refine blk_drewN ?_ _ | refine blk_drew ?_ | refine blk_alloc ?_ _)); refine blk_put (cs := #[.int .i64 0, .int .i64 0, .int .i64 0, .int .i64 0]) ?_ 0 _ rfl; (with_reducible repeat (first | refine blk_drewN ?_ _ | refine blk_drew ?_ | refine blk_alloc ?_ _)); exact BK10005.out) hb); have n2_ := Aside0.mk (below_step (by repeat (first | (with_reducible first | exact HB.out | apply below_alloc | apply pw_below_drewN | apply below_drew1 | refine below_set ?_ GE10005.out) | exact HB.out)) hb); clear BK10005; clear HB; have HO10008 := n0_; have BK10005 := n1_; have HB := n2_; clear n0_ n1_ n2_; (try clear hb); (try clear hb2); (try clear hk); (try clear hi); (try clear ho0); have hcz11_0 : w10.cell? ⟨gb10005, 0, none⟩ = some (.int .i64 t10001) := (blk_cell BK10005.out 0).trans rfl; have hcz11_1 : w10.cell? ⟨gb10005, 1, none⟩ = some (.int .i64 t10002) := (blk_cell BK10005.out 1).trans rfl; have hcz11_2 : w10.cell? ⟨gb10005, 2, none⟩ = some (.int .i64 t10003) := (blk_cell BK10005.out 2).trans rfl; have hcz11_3 : w10.cell? ⟨gb10005, 3, none⟩ = some (.int .i64 t10004) := (blk_cell BK10005.out 3).trans rfl; have hfz11_0 := blk_frozen BK10005.out 0; have hfz11_1 := blk_frozen BK10005.out 1; have hfz11_2 := blk_frozen BK10005.out 2; have hfz11_3 := blk_frozen BK10005.out 3) | ((with_reducible refine gate_callee (f := 26) rfl ?_); refine goesL_ (some 20) rfl rfl Try.func26 (by kernel_rfl) rfl #[.agg #[.int .i64 t10001, .int .i64 t10002, .int .i64 t10003, .int .i64 t10004]] rfl (by (try simp only [List.map_toArray, List.map_cons, List.map_nil]); first | done | rfl | (simp only [List.length_drop, List.length_take]; rfl)) ?_; (with_reducible refine (spec_BoxRegion.calls k t10001 t10002 t10003 t10004 t10010 t10013 _ A5.out).mono ?_); rintro e w12 ⟨v10011, rfl, ho0, hb⟩; refine ⟨_, rfl, ?_⟩; have n0_ := Aside0.mk (Kd.R_elder' (by (with_reducible repeat (first | apply Kd.R_alloc | apply Kd.R_drewN | apply Kd.R_drew)); exact HO10008.out) (Kd.R_base ho0) hb); have n1_ := Aside0.mk (Kd.R_lower (Kd.R_new' ho0 (Kd.R_lt (by (with_reducible repeat (first | apply Kd.R_alloc | apply Kd.R_drewN | apply Kd.R_drew)); exact HO10008.out))) (below_size (by repeat (first | (with_reducible first | exact HB.out | apply below_alloc | apply pw_below_drewN | apply below_drew1 | refine below_set ?_ GE10005.out) | exact HB.out)))); have n2_ := Aside0.mk (blk_below (g := gb10005) (o := .cells #[.int .i64 t10001, .int .i64 t10002, .int .i64 t10003, .int .i64 t10004] 36 (0, 0)) (by (with_reducible repeat (first | refine blk_drewN ?_ _ | refine blk_drew ?_ | refine blk_alloc ?_ _)); exact BK10005.out) hb); have n3_ := Aside0.mk (below_step (by repeat (first | (with_reducible first | exact HB.out | apply below_alloc | apply pw_below_drewN | apply below_drew1 | refine below_set ?_ GE10005.out) | exact HB.out)) hb); clear HO10008; clear BK10005; clear HB; have HO10008 := n0_; have HO10012 := n1_; have BK10005 := n2_; have HB := n3_; clear n0_ n1_ n2_ n3_; (try clear hb); (try clear hb2); (try clear hk); (try clear hi); (try clear ho0)))
    (try simp only [Act.put, List.setIfInBounds_toArray, List.set_cons_zero, List.set_cons_succ])
    go_cut [35] (fun v35 wc => ∃ (kq : Nat) (x35_5 : Bool), v35 = .bool x35_5 ∧ Aside0 (laws_FnEdgeOfBox.j0 kq t10006 t10009 t10010 t10013 x35_5 t10001 t10002 t10003 t10004 = some r) ∧ Aside0 (kq ≤ k) ∧ Aside0 (Kd.R k57 57 wc w.heap.size (fun k_ => some k_ ≠ (v10011 : Value).ownBlock) v10007 t10006) ∧ Aside0 (Kd.R k57 57 wc w.heap.size (fun k_ => some k_ ≠ (v10007 : Value).ownBlock) v10011 t10010) ∧ Aside0 (wc.heap[gb10005]? = some (.cells #[.int .i64 t10001, .int .i64 t10002, .int .i64 t10003, .int .i64 t10004] 36 (0, 0))) ∧ Aside0 (Below w.heap.size w wc))
    case first =>
      have H := HC6.out
      clear HC6
      replace H := Option.bind_eq_some_iff.mp H
      obtain ⟨t10014, A130, H⟩ := H
      replace H : (if t10014 = true then (if (t10009 != t10013) = true then (laws_FnEdgeOfBox.j0 k t10006 t10009 t10010 t10013 true t10001 t10002 t10003 t10004) else (laws_FnEdgeOfBox.j0 k t10006 t10009 t10010 t10013 (!t10009) t10001 t10002 t10003 t10004)) else (laws_FnEdgeOfBox.j0 k t10006 t10009 t10010 t10013 true t10001 t10002 t10003 t10004)) = some r := H
      have A13 := Aside0.mk A130
      clear A130
      by_cases c14 : t10014 = true
      · subst c14
        have H1 : (if (t10009 != t10013) = true then (laws_FnEdgeOfBox.j0 k t10006 t10009 t10010 t10013 true t10001 t10002 t10003 t10004) else (laws_FnEdgeOfBox.j0 k t10006 t10009 t10010 t10013 (!t10009) t10001 t10002 t10003 t10004)) = some r := by rw [if_pos rfl] at H; exact H
        clear H
        have H := H1
        clear H1
        by_cases c15 : (t10009 != t10013) = true
        · rw [if_pos c15] at H
          have c15b0 : (t10009 != t10013) = true := c15
          (try (have c15b1 : decide (t10009 = t10013) = false := by simpa using c15))
          (try (have c15b2 : (t10009 == t10013) = false := by simpa using c15))
          (try (have c15b3 : ¬ (t10009 = t10013) := by simpa using c15))
          clear c15
          (first | rw [c15b0] | (simp only [i64_w, i32_w]; rw [c15b0]) | skip)
          have H' := Aside0.mk H
          clear H
          obtain ⟨Ao16, co16, eo16⟩ := Kd.R_slice HO10008.out
          subst eo16
          obtain ⟨Ao17, co17, eo17⟩ := Kd.R_slice HO10012.out
          subst eo17
          go_wp2_with (first | ((with_reducible refine gate_callee (f := 35) rfl ?_); refine goesL_ (some 25) rfl rfl Try.func35 (by kernel_rfl) rfl #[.slice Ao16 t10006.length co16, .slice Ao17 t10010.length co17] rfl (by (try simp only [List.map_toArray, List.map_cons, List.map_nil]); first | done | rfl | (simp only [List.length_drop, List.length_take]; rfl)) ?_; (with_reducible refine (laws_equalRuns.calls k _ _ t10006 _ _ t10010 true _ ?side1 ?side2 ?side3 ?side4 A13.out).mono ?_); (case side1 => repeat (first | exact (Kd.R_reads' HO10008.out).2.2 | (with_reducible refine Kd.C_alloc ?_ _) | (with_reducible refine Kd.C_drewN ?_ _) | (with_reducible refine Kd.C_drew ?_))); (case side2 => exact (Kd.R_reads' HO10008.out).2.1); (case side3 => repeat (first | exact (Kd.R_reads' HO10012.out).2.2 | (with_reducible refine Kd.C_alloc ?_ _) | (with_reducible refine Kd.C_drewN ?_ _) | (with_reducible refine Kd.C_drew ?_))); (case side4 => exact (Kd.R_reads' HO10012.out).2.1); rintro e w' ⟨rfl, ⟨nd, rfl⟩⟩; refine ⟨_, rfl, ?_⟩))
          go_meet
          case rel => exact ⟨_, (true), (by first | rfl | (simp; done) | (simp [*]; done)), H', ⟨by first | omega | exact Nat.le_refl _⟩, ⟨by (with_reducible repeat (first | apply Kd.R_alloc | apply Kd.R_drewN | apply Kd.R_drew)); exact Kd.R_mono HO10008.out (fun _ hk => hk.2)⟩, ⟨by (with_reducible repeat (first | apply Kd.R_alloc | apply Kd.R_drewN | apply Kd.R_drew)); exact Kd.R_mono HO10012.out (fun _ hk => hk.2)⟩, ⟨by (with_reducible repeat (first | refine blk_drewN ?_ _ | refine blk_drew ?_ | refine blk_alloc ?_ _)); exact BK10005.out⟩, ⟨by repeat (first | (with_reducible first | exact HB.out | apply below_alloc | apply pw_below_drewN | apply below_drew1 | refine below_set ?_ GE10005.out) | exact HB.out)⟩⟩
        · rw [if_neg c15] at H
          have c15b0 : (t10009 != t10013) = false := by simpa using c15
          (try (have c15b1 : decide (t10009 = t10013) = true := by simpa using c15))
          (try (have c15b2 : (t10009 == t10013) = true := by simpa using c15))
          clear c15
          (first | rw [c15b0] | (simp only [i64_w, i32_w]; rw [c15b0]) | skip)
          have H' := Aside0.mk H
          clear H
          obtain ⟨Ao18, co18, eo18⟩ := Kd.R_slice HO10008.out
          subst eo18
          obtain ⟨Ao19, co19, eo19⟩ := Kd.R_slice HO10012.out
          subst eo19
          go_wp2_with (first | ((with_reducible refine gate_callee (f := 35) rfl ?_); refine goesL_ (some 25) rfl rfl Try.func35 (by kernel_rfl) rfl #[.slice Ao18 t10006.length co18, .slice Ao19 t10010.length co19] rfl (by (try simp only [List.map_toArray, List.map_cons, List.map_nil]); first | done | rfl | (simp only [List.length_drop, List.length_take]; rfl)) ?_; (with_reducible refine (laws_equalRuns.calls k _ _ t10006 _ _ t10010 true _ ?side1 ?side2 ?side3 ?side4 A13.out).mono ?_); (case side1 => repeat (first | exact (Kd.R_reads' HO10008.out).2.2 | (with_reducible refine Kd.C_alloc ?_ _) | (with_reducible refine Kd.C_drewN ?_ _) | (with_reducible refine Kd.C_drew ?_))); (case side2 => exact (Kd.R_reads' HO10008.out).2.1); (case side3 => repeat (first | exact (Kd.R_reads' HO10012.out).2.2 | (with_reducible refine Kd.C_alloc ?_ _) | (with_reducible refine Kd.C_drewN ?_ _) | (with_reducible refine Kd.C_drew ?_))); (case side4 => exact (Kd.R_reads' HO10012.out).2.1); rintro e w' ⟨rfl, ⟨nd, rfl⟩⟩; refine ⟨_, rfl, ?_⟩))
          go_meet
          case rel => exact ⟨_, (!t10009), (by first | rfl | (simp; done) | (simp [*]; done)), H', ⟨by first | omega | exact Nat.le_refl _⟩, ⟨by (with_reducible repeat (first | apply Kd.R_alloc | apply Kd.R_drewN | apply Kd.R_drew)); exact Kd.R_mono HO10008.out (fun _ hk => hk.2)⟩, ⟨by (with_reducible repeat (first | apply Kd.R_alloc | apply Kd.R_drewN | apply Kd.R_drew)); exact Kd.R_mono HO10012.out (fun _ hk => hk.2)⟩, ⟨by (with_reducible repeat (first | refine blk_drewN ?_ _ | refine blk_drew ?_ | refine blk_alloc ?_ _)); exact BK10005.out⟩, ⟨by repeat (first | (with_reducible first | exact HB.out | apply below_alloc | apply pw_below_drewN | apply below_drew1 | refine below_set ?_ GE10005.out) | exact HB.out)⟩⟩
      · replace c14 := Bool.eq_false_iff.mpr c14
        subst c14
        have H1 : (laws_FnEdgeOfBox.j0 k t10006 t10009 t10010 t10013 true t10001 t10002 t10003 t10004) = some r := by rw [if_neg (show ¬ (false = true) by decide)] at H; exact H
        clear H
        have H := H1
        clear H1
        have H' := Aside0.mk H
        clear H
        obtain ⟨Ao20, co20, eo20⟩ := Kd.R_slice HO10008.out
        subst eo20
        obtain ⟨Ao21, co21, eo21⟩ := Kd.R_slice HO10012.out
        subst eo21
        go_wp2_with (first | ((with_reducible refine gate_callee (f := 35) rfl ?_); refine goesL_ (some 25) rfl rfl Try.func35 (by kernel_rfl) rfl #[.slice Ao20 t10006.length co20, .slice Ao21 t10010.length co21] rfl (by (try simp only [List.map_toArray, List.map_cons, List.map_nil]); first | done | rfl | (simp only [List.length_drop, List.length_take]; rfl)) ?_; (with_reducible refine (laws_equalRuns.calls k _ _ t10006 _ _ t10010 false _ ?side1 ?side2 ?side3 ?side4 A13.out).mono ?_); (case side1 => repeat (first | exact (Kd.R_reads' HO10008.out).2.2 | (with_reducible refine Kd.C_alloc ?_ _) | (with_reducible refine Kd.C_drewN ?_ _) | (with_reducible refine Kd.C_drew ?_))); (case side2 => exact (Kd.R_reads' HO10008.out).2.1); (case side3 => repeat (first | exact (Kd.R_reads' HO10012.out).2.2 | (with_reducible refine Kd.C_alloc ?_ _) | (with_reducible refine Kd.C_drewN ?_ _) | (with_reducible refine Kd.C_drew ?_))); (case side4 => exact (Kd.R_reads' HO10012.out).2.1); rintro e w' ⟨rfl, ⟨nd, rfl⟩⟩; refine ⟨_, rfl, ?_⟩))
        go_meet
        case rel => exact ⟨_, (true), (by first | rfl | (simp; done) | (simp [*]; done)), H', ⟨by first | omega | exact Nat.le_refl _⟩, ⟨by (with_reducible repeat (first | apply Kd.R_alloc | apply Kd.R_drewN | apply Kd.R_drew)); exact Kd.R_mono HO10008.out (fun _ hk => hk.2)⟩, ⟨by (with_reducible repeat (first | apply Kd.R_alloc | apply Kd.R_drewN | apply Kd.R_drew)); exact Kd.R_mono HO10012.out (fun _ hk => hk.2)⟩, ⟨by (with_reducible repeat (first | refine blk_drewN ?_ _ | refine blk_drew ?_ | refine blk_alloc ?_ _)); exact BK10005.out⟩, ⟨by repeat (first | (with_reducible first | exact HB.out | apply below_alloc | apply pw_below_drewN | apply below_drew1 | refine below_set ?_ GE10005.out) | exact HB.out)⟩⟩
    case rest =>
      clear HC6
      try clear c1
      try clear c2
      try clear c2b0
      try clear c2b1
      try clear p2
      try clear c3
      try clear c9
      try clear c14
      try clear c15
      try clear c15b0
      try clear c15b1
      try clear c15b2
      try clear hcz11_0
      try clear hcz11_1
      try clear hcz11_2
      try clear hcz11_3
      try clear hcz9_0
      try clear hcz9_1
      try clear hcz9_2
      try clear hcz9_3
      try clear hfz11_0
      try clear hfz11_1
      try clear hfz11_2
      try clear hfz11_3
      try clear hfz9_0
      try clear hfz9_1
      try clear hfz9_2
      try clear hfz9_3
      obtain ⟨kq, x35_5, rfl, HA, HJ5, HO_4, HO_6, BK10005, HB⟩ := hcut
      cases kq with
      | zero => exact absurd HA.out (by simp [laws_FnEdgeOfBox.j0])
      | succ kj5 =>
        have H := HA.out
        clear HA
        simp only [laws_FnEdgeOfBox.j0] at H
        by_cases c22 : x35_5 = true
        · subst c22
          have H1 : ((laws_equalRuns.f kj5 t10006 t10010).bind fun t10015 => (if t10015 = true then (some (t10009 == t10013)) else (some false))) = some r := by rw [if_pos rfl] at H; exact H
          clear H
          have H := H1
          clear H1
          replace H := Option.bind_eq_some_iff.mp H
          obtain ⟨t10015, A230, H⟩ := H
          replace H : (if t10015 = true then (some (t10009 == t10013)) else (some false)) = some r := H
          have A23 := Aside0.mk A230
          clear A230
          by_cases c24 : t10015 = true
          · subst c24
            have H1 : (some (t10009 == t10013)) = some r := by rw [if_pos rfl] at H; exact H
            clear H
            have H := H1
            clear H1
            obtain rfl := Option.some.inj H
            obtain ⟨Ao25, co25, eo25⟩ := Kd.R_slice HO_4.out
            subst eo25
            obtain ⟨Ao26, co26, eo26⟩ := Kd.R_slice HO_6.out
            subst eo26
            go_wp2_with (first | ((with_reducible refine gate_callee (f := 35) rfl ?_); refine goesL_ (some 38) rfl rfl Try.func35 (by kernel_rfl) rfl #[.slice Ao25 t10006.length co25, .slice Ao26 t10010.length co26] rfl (by (try simp only [List.map_toArray, List.map_cons, List.map_nil]); first | done | rfl | (simp only [List.length_drop, List.length_take]; rfl)) ?_; (with_reducible refine (laws_equalRuns.calls kj5 _ _ t10006 _ _ t10010 true _ ?side1 ?side2 ?side3 ?side4 A23.out).mono ?_); (case side1 => repeat (first | exact (Kd.R_reads' HO_4.out).2.2 | (with_reducible refine Kd.C_alloc ?_ _) | (with_reducible refine Kd.C_drewN ?_ _) | (with_reducible refine Kd.C_drew ?_))); (case side2 => exact (Kd.R_reads' HO_4.out).2.1); (case side3 => repeat (first | exact (Kd.R_reads' HO_6.out).2.2 | (with_reducible refine Kd.C_alloc ?_ _) | (with_reducible refine Kd.C_drewN ?_ _) | (with_reducible refine Kd.C_drew ?_))); (case side4 => exact (Kd.R_reads' HO_6.out).2.1); rintro e w' ⟨rfl, ⟨nd, rfl⟩⟩; refine ⟨_, rfl, ?_⟩))
            go_ret
            exact ⟨by first | rfl | (simp [errW_none, errW_some] <;> rfl) | (simp [*, errW_none, errW_some] <;> rfl), by repeat (first | (with_reducible first | exact HB.out | apply below_alloc | apply pw_below_drewN | apply below_drew1 | refine below_set ?_ GE10005.out) | exact HB.out)⟩
          · replace c24 := Bool.eq_false_iff.mpr c24
            subst c24
            have H1 : (some false) = some r := by rw [if_neg (show ¬ (false = true) by decide)] at H; exact H
            clear H
            have H := H1
            clear H1
            obtain rfl := Option.some.inj H
            obtain ⟨Ao27, co27, eo27⟩ := Kd.R_slice HO_4.out
            subst eo27
            obtain ⟨Ao28, co28, eo28⟩ := Kd.R_slice HO_6.out
            subst eo28
            go_wp2_with (first | ((with_reducible refine gate_callee (f := 35) rfl ?_); refine goesL_ (some 38) rfl rfl Try.func35 (by kernel_rfl) rfl #[.slice Ao27 t10006.length co27, .slice Ao28 t10010.length co28] rfl (by (try simp only [List.map_toArray, List.map_cons, List.map_nil]); first | done | rfl | (simp only [List.length_drop, List.length_take]; rfl)) ?_; (with_reducible refine (laws_equalRuns.calls kj5 _ _ t10006 _ _ t10010 false _ ?side1 ?side2 ?side3 ?side4 A23.out).mono ?_); (case side1 => repeat (first | exact (Kd.R_reads' HO_4.out).2.2 | (with_reducible refine Kd.C_alloc ?_ _) | (with_reducible refine Kd.C_drewN ?_ _) | (with_reducible refine Kd.C_drew ?_))); (case side2 => exact (Kd.R_reads' HO_4.out).2.1); (case side3 => repeat (first | exact (Kd.R_reads' HO_6.out).2.2 | (with_reducible refine Kd.C_alloc ?_ _) | (with_reducible refine Kd.C_drewN ?_ _) | (with_reducible refine Kd.C_drew ?_))); (case side4 => exact (Kd.R_reads' HO_6.out).2.1); rintro e w' ⟨rfl, ⟨nd, rfl⟩⟩; refine ⟨_, rfl, ?_⟩))
            go_ret
            exact ⟨by first | rfl | (simp [errW_none, errW_some] <;> rfl) | (simp [*, errW_none, errW_some] <;> rfl), by repeat (first | (with_reducible first | exact HB.out | apply below_alloc | apply pw_below_drewN | apply below_drew1 | refine below_set ?_ GE10005.out) | exact HB.out)⟩
        · replace c22 := Bool.eq_false_iff.mpr c22
          subst c22
          have H1 : ((impl_EdgeOf.f t10006).bind fun t10016 => ((impl_AreaOf.f kj5 t10016).bind fun t10019 => (some (t10019 == (wrap64 ((wrap64 (t10003 * t10004)) - (wrap64 ((mx 0 (wrap64 (t10003 - 2))) * (mx 0 (wrap64 (t10004 - 2))))))))))) = some r := by rw [if_neg (show ¬ (false = true) by decide)] at H; exact H
          clear H
          have H := H1
          clear H1
          replace H := Option.bind_eq_some_iff.mp H
          obtain ⟨t10016, A290, H⟩ := H
          replace H : ((impl_AreaOf.f kj5 t10016).bind fun t10019 => (some (t10019 == (wrap64 ((wrap64 (t10003 * t10004)) - (wrap64 ((mx 0 (wrap64 (t10003 - 2))) * (mx 0 (wrap64 (t10004 - 2)))))))))) = some r := H
          have A29 := Aside0.mk A290
          clear A290
          replace H := Option.bind_eq_some_iff.mp H
          obtain ⟨t10019, A300, H⟩ := H
          replace H : (some (t10019 == (wrap64 ((wrap64 (t10003 * t10004)) - (wrap64 ((mx 0 (wrap64 (t10003 - 2))) * (mx 0 (wrap64 (t10004 - 2))))))))) = some r := H
          have A30 := Aside0.mk A300
          clear A300
          obtain ⟨ji31, hji31⟩ : ∃ j_ : Int, (mx 0 (wrap64 (t10003 - 2))) = j_ := ⟨_, rfl⟩
          replace H : (some (t10019 == (wrap64 ((wrap64 (t10003 * t10004)) - (wrap64 ((ji31) * (mx 0 (wrap64 (t10004 - 2))))))))) = some r := by first | (rw [hji31] at H; exact H) | (simp only [hji31] at H ⊢; exact H)
          (try rw [hji31] at A29)
          (try rw [hji31] at A30)
          have hji31_ : (if 0 < (wrap64 (t10003 - 2)) then (wrap64 (t10003 - 2)) else 0) = ji31 := hji31
          obtain ⟨ji32, hji32⟩ : ∃ j_ : Int, (mx 0 (wrap64 (t10004 - 2))) = j_ := ⟨_, rfl⟩
          replace H : (some (t10019 == (wrap64 ((wrap64 (t10003 * t10004)) - (wrap64 ((ji31) * (ji32))))))) = some r := by first | (rw [hji32] at H; exact H) | (simp only [hji32] at H ⊢; exact H)
          (try rw [hji32] at A29)
          (try rw [hji32] at A30)
          have hji32_ : (if 0 < (wrap64 (t10004 - 2)) then (wrap64 (t10004 - 2)) else 0) = ji32 := hji32
          obtain rfl := Option.some.inj H
          try go_wp2
          have n0_ := Aside0.mk (Kd.R_drew HO_4.out)
          have n1_ := Aside0.mk (Kd.R_drew HO_6.out)
          have n2_ := Aside0.mk (blk_drew BK10005.out)
          have n3_ := Aside0.mk (below_drew1 HB.out)
          clear HO_4
          clear HO_6
          clear BK10005
          clear HB
          have HO_4 := n0_
          have HO_6 := n1_
          have BK10005 := n2_
          have HB := n3_
          clear n0_ n1_ n2_ n3_
          obtain ⟨Ao34, co34, eo34⟩ := Kd.R_slice HO_4.out
          (first | subst eo34 | (injection eo34 with f1_ f2_ f3_; have f4_ := f1_.symm; have f5_ := f3_.symm; clear f1_ f2_ f3_; subst f4_; subst f5_))
          refine start_ (n := 20) (S := fun w' => w'.cell? ⟨gb10005, 0, none⟩ = some (.int .i64 t10001) ∧ w'.cell? ⟨gb10005, 1, none⟩ = some (.int .i64 t10002) ∧ w'.cell? ⟨gb10005, 2, none⟩ = some (.int .i64 t10003) ∧ w'.cell? ⟨gb10005, 3, none⟩ = some (.int .i64 t10004)) (ds := []) #[false, false, false, false, false, false, false, false, false, false, false, false, false, false, false, false, false, false, false, false] (by kernel_rfl) rfl rfl ⟨(blk_cell BK10005.out 0).trans rfl, (blk_cell BK10005.out 1).trans rfl, (blk_cell BK10005.out 2).trans rfl, (blk_cell BK10005.out 3).trans rfl⟩ (fun hHeld => ?_); refine with_tabW laws_FnEdgeOfBox.tab8 laws_FnEdgeOfBox.bits8 (fun HT_ HW_ => ?_)
          generalize wc.drew = w33 at HO_4 HO_6 BK10005 HB hHeld ⊢
          refine pure_ (i := 0) (N := some 44) (v := ?_) (a' := ?_) #[true, false, false, false, false, false, false, false, false, false, false, false, false, false, false, false, false, false, false, false] rfl rfl (any_of HT_.out (by kernel_rfl)) (fun _ _ _ h => h) (Or.inl ⟨by rfl, ?_⟩) ?_ ?_
          rotate_left
          · intro w'
            go_simp
            with_reducible rfl
          rotate_left
          · simp only [Act.put, List.setIfInBounds_toArray, List.set_cons_zero, List.set_cons_succ, i64_w, i32_w]
            rfl
          refine pure_ (i := 3) (N := some 47) (v := ?_) (a' := ?_) #[true, false, false, true, false, false, false, false, false, false, false, false, false, false, false, false, false, false, false, false] rfl rfl (any_of HT_.out (by kernel_rfl)) (fun _ _ _ h => h) (Or.inl ⟨by rfl, ?_⟩) ?_ ?_
          rotate_left
          · intro w'
            go_simp
            with_reducible rfl
          rotate_left
          · simp only [Act.put, List.setIfInBounds_toArray, List.set_cons_zero, List.set_cons_succ, i64_w, i32_w]
            rfl
          refine pure_ (i := 5) (N := some 49) (v := ?_) (a' := ?_) #[true, false, false, true, false, true, false, false, false, false, false, false, false, false, false, false, false, false, false, false] rfl rfl (any_of HT_.out (by kernel_rfl)) (fun _ _ _ h => h) (Or.inl ⟨by rfl, ?_⟩) ?_ ?_
          rotate_left
          · intro w'
            go_simp
            with_reducible rfl
          rotate_left
          · simp only [Act.put, List.setIfInBounds_toArray, List.set_cons_zero, List.set_cons_succ, i64_w, i32_w]
            rfl
          refine pure_ (i := 8) (N := some 52) (v := ?_) (a' := ?_) #[true, false, false, true, false, true, false, false, true, false, false, false, false, false, false, false, false, false, false, false] rfl rfl (any_of HT_.out (by kernel_rfl)) (fun _ _ _ h => h) (Or.inl ⟨by rfl, ?_⟩) ?_ ?_
          rotate_left
          · intro w'
            go_simp
            with_reducible rfl
          rotate_left
          · simp only [Act.put, List.setIfInBounds_toArray, List.set_cons_zero, List.set_cons_succ, i64_w, i32_w]
            rfl
          refine pure_ (i := 12) (N := some 56) (v := ?_) (a' := ?_) #[true, false, false, true, false, true, false, false, true, false, false, false, true, false, false, false, false, false, false, false] rfl rfl (any_of HT_.out (by kernel_rfl)) (fun _ _ _ h => h) (Or.inl ⟨by rfl, ?_⟩) ?_ ?_
          rotate_left
          · intro w'
            go_simp
            with_reducible rfl
          rotate_left
          · simp only [Act.put, List.setIfInBounds_toArray, List.set_cons_zero, List.set_cons_succ, i64_w, i32_w]
            rfl
          refine take_ (i := 4) (N := some 48) (v := ?_) (a' := ?_) #[true, false, false, true, true, true, false, false, true, false, false, false, true, false, false, false, false, false, false, false] rfl rfl (take_ofW HT_.out HW_.out (by kernel_rfl)) (fun _ _ _ h => h) (Or.inl ⟨by rfl, ?_⟩) hHeld ?_ ?_
          rotate_left
          · rintro w' ⟨s0, s1, s2, s3⟩
            go_simp
            with_reducible rfl
          rotate_left
          · simp only [Act.put, List.setIfInBounds_toArray, List.set_cons_zero, List.set_cons_succ, i64_w, i32_w]
            rfl
          refine take_ (i := 6) (N := some 50) (v := ?_) (a' := ?_) #[true, false, false, true, true, true, true, false, true, false, false, false, true, false, false, false, false, false, false, false] rfl rfl (take_ofW HT_.out HW_.out (by kernel_rfl)) (fun _ _ _ h => h) (Or.inl ⟨by rfl, ?_⟩) hHeld ?_ ?_
          rotate_left
          · rintro w' ⟨s0, s1, s2, s3⟩
            go_simp
            with_reducible rfl
          rotate_left
          · simp only [Act.put, List.setIfInBounds_toArray, List.set_cons_zero, List.set_cons_succ, i64_w, i32_w]
            rfl
          refine pure_ (i := 7) (N := some 51) (v := ?_) (a' := ?_) #[true, false, false, true, true, true, true, true, true, false, false, false, true, false, false, false, false, false, false, false] rfl rfl (any_of HT_.out (by kernel_rfl)) (fun _ _ _ h => h) (Or.inl ⟨by rfl, ?_⟩) ?_ ?_
          rotate_left
          · intro w'
            go_simp
            with_reducible rfl
          rotate_left
          · simp only [Act.put, List.setIfInBounds_toArray, List.set_cons_zero, List.set_cons_succ, i64_w, i32_w]
            rfl
          refine take_ (i := 9) (N := some 53) (v := ?_) (a' := ?_) #[true, false, false, true, true, true, true, true, true, true, false, false, true, false, false, false, false, false, false, false] rfl rfl (take_ofW HT_.out HW_.out (by kernel_rfl)) (fun _ _ _ h => h) (Or.inl ⟨by rfl, ?_⟩) hHeld ?_ ?_
          rotate_left
          · rintro w' ⟨s0, s1, s2, s3⟩
            go_simp
            with_reducible rfl
          rotate_left
          · simp only [Act.put, List.setIfInBounds_toArray, List.set_cons_zero, List.set_cons_succ, i64_w, i32_w]
            rfl
          refine pure_ (i := 10) (N := some 54) (v := ?_) (a' := ?_) #[true, false, false, true, true, true, true, true, true, true, true, false, true, false, false, false, false, false, false, false] rfl rfl (any_of HT_.out (by kernel_rfl)) (fun _ _ _ h => h) (Or.inl ⟨by rfl, ?_⟩) ?_ ?_
          rotate_left
          · intro w'
            go_simp
            with_reducible rfl
          rotate_left
          · simp only [Act.put, List.setIfInBounds_toArray, List.set_cons_zero, List.set_cons_succ, i64_w, i32_w]
            rfl
          refine pure_ (i := 11) (N := some 55) (v := ?_) (a' := ?_) #[true, false, false, true, true, true, true, true, true, true, true, true, true, false, false, false, false, false, false, false] rfl rfl (any_of HT_.out (by kernel_rfl)) (fun _ _ _ h => h) (Or.inl ⟨by rfl, ?_⟩) ?_ ?_
          rotate_left
          · intro w'
            go_simp
            with_reducible rfl
          rotate_left
          · simp only [Act.put, List.setIfInBounds_toArray, List.set_cons_zero, List.set_cons_succ, i64_w, i32_w]
            rfl
          refine take_ (i := 13) (N := some 57) (v := ?_) (a' := ?_) #[true, false, false, true, true, true, true, true, true, true, true, true, true, true, false, false, false, false, false, false] rfl rfl (take_ofW HT_.out HW_.out (by kernel_rfl)) (fun _ _ _ h => h) (Or.inl ⟨by rfl, ?_⟩) hHeld ?_ ?_
          rotate_left
          · rintro w' ⟨s0, s1, s2, s3⟩
            go_simp
            with_reducible rfl
          rotate_left
          · simp only [Act.put, List.setIfInBounds_toArray, List.set_cons_zero, List.set_cons_succ, i64_w, i32_w]
            rfl
          refine pure_ (i := 14) (N := some 58) (v := ?_) (a' := ?_) #[true, false, false, true, true, true, true, true, true, true, true, true, true, true, true, false, false, false, false, false] rfl rfl (any_of HT_.out (by kernel_rfl)) (fun _ _ _ h => h) (Or.inl ⟨by rfl, ?_⟩) ?_ ?_
          rotate_left
          · intro w'
            go_simp
            with_reducible rfl
          rotate_left
          · simp only [Act.put, List.setIfInBounds_toArray, List.set_cons_zero, List.set_cons_succ, i64_w, i32_w]
            rfl
          refine pure_ (i := 15) (N := some 59) (v := ?_) (a' := ?_) #[true, false, false, true, true, true, true, true, true, true, true, true, true, true, true, true, false, false, false, false] rfl rfl (any_of HT_.out (by kernel_rfl)) (fun _ _ _ h => h) (Or.inl ⟨by rfl, ?_⟩) ?_ ?_
          rotate_left
          · intro w'
            go_simp
            with_reducible rfl
          rotate_left
          · simp only [Act.put, List.setIfInBounds_toArray, List.set_cons_zero, List.set_cons_succ, i64_w, i32_w]
            rfl
          refine pure_ (i := 16) (N := some 60) (v := ?_) (a' := ?_) #[true, false, false, true, true, true, true, true, true, true, true, true, true, true, true, true, true, false, false, false] rfl rfl (any_of HT_.out (by kernel_rfl)) (fun _ _ _ h => h) (Or.inl ⟨by rfl, ?_⟩) ?_ ?_
          rotate_left
          · intro w'
            go_simp
            with_reducible rfl
          rotate_left
          · simp only [Act.put, List.setIfInBounds_toArray, List.set_cons_zero, List.set_cons_succ, i64_w, i32_w]
            rfl
          refine pure_ (i := 17) (N := some 61) (v := ?_) (a' := ?_) #[true, false, false, true, true, true, true, true, true, true, true, true, true, true, true, true, true, true, false, false] rfl rfl (any_of HT_.out (by kernel_rfl)) (fun _ _ _ h => h) (Or.inl ⟨by rfl, ?_⟩) ?_ ?_
          rotate_left
          · intro w'
            go_simp
            with_reducible rfl
          rotate_left
          · simp only [Act.put, List.setIfInBounds_toArray, List.set_cons_zero, List.set_cons_succ, i64_w, i32_w]
            rfl
          refine one_ (i := 1) (N := some 45) #[true, true, false, true, true, true, true, true, true, true, true, true, true, true, true, true, true, true, false, false] rfl rfl (one_of HT_.out (by kernel_rfl)) (by decide) (fun K hK => ?_)
          refine goes_ Try.func36 (by kernel_rfl) rfl #[.slice Ao34 t10006.length co34] (by rfl) rfl rfl (by (try simp only [List.map_toArray, List.map_cons, List.map_nil]); first | done | rfl | (simp only [List.length_drop, List.length_take]; rfl)) ?_
          with_reducible refine (impl_EdgeOf.calls _ _ t10006 t10016 _ ?side1 ?side2 A29.out).mono ?_
          (case side1 => repeat (first | exact (Kd.R_reads' HO_4.out).2.2 | (with_reducible refine Kd.C_alloc ?_ _) | (with_reducible refine Kd.C_drewN ?_ _) | (with_reducible refine Kd.C_drew ?_)))
          (case side2 => exact (Kd.R_reads' HO_4.out).2.1)
          rintro e w35 ⟨v10017, rfl, ho0, hb⟩
          refine ⟨_, rfl, ?_⟩
          have n0_ := Aside0.mk (Kd.R_elder' (by (with_reducible repeat (first | apply Kd.R_alloc | apply Kd.R_drewN | apply Kd.R_drew)); exact HO_4.out) (Kd.R_base ho0) hb)
          have n1_ := Aside0.mk (Kd.R_elder' (by (with_reducible repeat (first | apply Kd.R_alloc | apply Kd.R_drewN | apply Kd.R_drew)); exact HO_6.out) (Kd.R_base ho0) hb)
          have n2_ := Aside0.mk (Kd.R_lower (Kd.R_new' (Kd.R_new' ho0 (Kd.R_lt (by (with_reducible repeat (first | apply Kd.R_alloc | apply Kd.R_drewN | apply Kd.R_drew)); exact HO_4.out))) (Kd.R_lt (by (with_reducible repeat (first | apply Kd.R_alloc | apply Kd.R_drewN | apply Kd.R_drew)); exact HO_6.out))) (below_size (by repeat (first | (with_reducible first | exact HB.out | apply below_alloc | apply pw_below_drewN | apply below_drew1 | refine below_set ?_ GE10005.out) | exact HB.out))))
          have n3_ := Aside0.mk (blk_below (g := gb10005) (o := .cells #[.int .i64 t10001, .int .i64 t10002, .int .i64 t10003, .int .i64 t10004] 36 (0, 0)) (by (with_reducible repeat (first | refine blk_drewN ?_ _ | refine blk_drew ?_ | refine blk_alloc ?_ _)); exact BK10005.out) hb)
          have n4_ := Aside0.mk (below_step (by repeat (first | (with_reducible first | exact HB.out | apply below_alloc | apply pw_below_drewN | apply below_drew1 | refine below_set ?_ GE10005.out) | exact HB.out)) hb)
          clear HO_4
          clear HO_6
          clear BK10005
          clear HB
          have HO_4 := n0_
          have HO_6 := n1_
          have HO10018 := n2_
          have BK10005 := n3_
          have HB := n4_
          clear n0_ n1_ n2_ n3_ n4_
          (try clear hb)
          (try clear hb2)
          (try clear hk)
          (try clear hi)
          (try clear ho0)
          obtain ⟨Ao36, co36, eo36⟩ := Kd.R_slice HO10018.out
          (first | subst eo36 | (injection eo36 with f1_ f2_ f3_; have f4_ := f1_.symm; have f5_ := f3_.symm; clear f1_ f2_ f3_; subst f4_; subst f5_))
          refine hK.out _ _ ⟨(blk_cell BK10005.out 0).trans rfl, (blk_cell BK10005.out 1).trans rfl, (blk_cell BK10005.out 2).trans rfl, (blk_cell BK10005.out 3).trans rfl⟩ (fun hHeld => ?_)
          clear hK K
          refine norm_ (a' := ?_) ?_ ?_
          rotate_left
          · show Act.put _ (some 45) _ = _
            simp only [Act.put, List.setIfInBounds_toArray, List.set_cons_zero, List.set_cons_succ, i64_w, i32_w]
            rfl
          refine one_ (i := 2) (N := some 46) #[true, true, true, true, true, true, true, true, true, true, true, true, true, true, true, true, true, true, false, false] rfl rfl (one_of HT_.out (by kernel_rfl)) (by decide) (fun K hK => ?_)
          refine goes_ Try.func23 (by kernel_rfl) rfl #[.slice Ao36 t10016.length co36] (by rfl) rfl rfl (by (try simp only [List.map_toArray, List.map_cons, List.map_nil]); first | done | rfl | (simp only [List.length_drop, List.length_take]; rfl)) ?_
          with_reducible refine (impl_AreaOf.calls kj5 _ _ t10016 t10019 _ ?side1 ?side2 A30.out).mono ?_
          (case side1 => repeat (first | exact (Kd.R_reads' HO10018.out).2.2 | (with_reducible refine Kd.C_alloc ?_ _) | (with_reducible refine Kd.C_drewN ?_ _) | (with_reducible refine Kd.C_drew ?_)))
          (case side2 => exact (Kd.R_reads' HO10018.out).2.1)
          rintro e w37 ⟨rfl, hb⟩
          refine ⟨_, rfl, ?_⟩
          have n0_ := Aside0.mk (Kd.R_below (by (with_reducible repeat (first | apply Kd.R_alloc | apply Kd.R_drewN | apply Kd.R_drew)); exact HO_4.out) hb)
          have n1_ := Aside0.mk (Kd.R_below (by (with_reducible repeat (first | apply Kd.R_alloc | apply Kd.R_drewN | apply Kd.R_drew)); exact HO_6.out) hb)
          have n2_ := Aside0.mk (Kd.R_below (by (with_reducible repeat (first | apply Kd.R_alloc | apply Kd.R_drewN | apply Kd.R_drew)); exact HO10018.out) hb)
          have n3_ := Aside0.mk (blk_below (g := gb10005) (o := .cells #[.int .i64 t10001, .int .i64 t10002, .int .i64 t10003, .int .i64 t10004] 36 (0, 0)) (by (with_reducible repeat (first | refine blk_drewN ?_ _ | refine blk_drew ?_ | refine blk_alloc ?_ _)); exact BK10005.out) hb)
          have n4_ := Aside0.mk (below_step (by repeat (first | (with_reducible first | exact HB.out | apply below_alloc | apply pw_below_drewN | apply below_drew1 | refine below_set ?_ GE10005.out) | exact HB.out)) hb)
          clear HO_4
          clear HO_6
          clear HO10018
          clear BK10005
          clear HB
          have HO_4 := n0_
          have HO_6 := n1_
          have HO10018 := n2_
          have BK10005 := n3_
          have HB := n4_
          clear n0_ n1_ n2_ n3_ n4_
          (try clear hb)
          (try clear hb2)
          (try clear hk)
          (try clear hi)
          refine hK.out _ _ ⟨(blk_cell BK10005.out 0).trans rfl, (blk_cell BK10005.out 1).trans rfl, (blk_cell BK10005.out 2).trans rfl, (blk_cell BK10005.out 3).trans rfl⟩ (fun hHeld => ?_)
          clear hK K
          refine norm_ (a' := ?_) ?_ ?_
          rotate_left
          · show Act.put _ (some 46) _ = _
            simp only [Act.put, List.setIfInBounds_toArray, List.set_cons_zero, List.set_cons_succ, i64_w, i32_w]
            rfl
          refine pure_ (i := 18) (N := some 62) (v := ?_) (a' := ?_) #[true, true, true, true, true, true, true, true, true, true, true, true, true, true, true, true, true, true, true, false] rfl rfl (any_of HT_.out (by kernel_rfl)) (fun _ _ _ h => h) (Or.inl ⟨by rfl, ?_⟩) ?_ ?_
          rotate_left
          · intro w'
            go_simp
            with_reducible rfl
          rotate_left
          · simp only [Act.put, List.setIfInBounds_toArray, List.set_cons_zero, List.set_cons_succ, i64_w, i32_w]
            rfl
          refine pure_ (i := 19) (N := some 2) (v := ?_) (a' := ?_) #[true, true, true, true, true, true, true, true, true, true, true, true, true, true, true, true, true, true, true, true] rfl rfl (any_of HT_.out (by kernel_rfl)) (fun _ _ _ h => h) (Or.inl ⟨by rfl, ?_⟩) ?_ ?_
          rotate_left
          · intro w'
            go_simp
            with_reducible rfl
          rotate_left
          · simp only [Act.put, List.setIfInBounds_toArray, List.set_cons_zero, List.set_cons_succ, i64_w, i32_w]
            rfl
          refine done_ (done_of HT_.out (by kernel_rfl)) ?_
          try go_wp2
          go_ret
          exact ⟨by first | rfl | (simp [errW_none, errW_some] <;> rfl) | (simp only [← hji31, ← hji32]; first | rfl | (simp [errW_none, errW_some] <;> rfl)) | (simp [*, errW_none, errW_some] <;> rfl), by repeat (first | (with_reducible first | exact HB.out | apply below_alloc | apply pw_below_drewN | apply below_drew1 | refine below_set ?_ GE10005.out) | exact HB.out)⟩

/-- THE ONE PURE STATEMENT of laws_FnEdgeOfBox: yours. -/
def laws_FnEdgeOfBox.Pure : Prop := ∀ (l0 : List Int), l0.length ≤ maxLen → l0.length * 1 ≤ 140737488351232 → (∀ x ∈ l0, (Lit.int .u8 x).wf = true) → ∃ k, laws_FnEdgeOfBox.f k l0 = some true
theorem laws_FnEdgeOfBox.walk (P : laws_FnEdgeOfBox.Pure) (a0 : Option Addr) (len0 cap0 : Nat) (z0 : List Int) (w : World) (w0 : (a0 = none ∧ len0 = 0 ∧ cap0 = 0 ∧ z0 = []) ∨ ∃ x, a0 = some x ∧ len0 ≤ cap0 ∧ cap0 ≤ maxLen ∧ z0.length = cap0 ∧ (∀ i, i < z0.length → w.cell? (x.add i) = some (.int .u8 (z0.getD i 0))) ∧ ∀ n ∈ z0, (Lit.int .u8 n).wf = true) (y0 : len0 * 1 ≤ 140737488351232) :
    Calls Try.prog 9 #[.slice a0 len0 cap0] w fun e w' => e = .returned (.bool true) ∧ Below w.heap.size w w' := by
  obtain ⟨l0, rfl, hr0, hm0, hw0, hc0⟩ := ReadsInt.ofRowC w0
  obtain ⟨k, h⟩ := P l0 hm0 y0 hw0
  refine (laws_FnEdgeOfBox.calls k _ _ l0 true w (Kd.C_of_reads (d := (0 : Int)) (h1 := fun _ => rfl) hr0) hc0 h).mono ?_
  rintro e w' ⟨rfl, hd⟩
  exact ⟨rfl, hd⟩

end Go.Proofs.Ytfgeickfheogoaa.Q

/- Grids and their runs, as the reference has them: lists of 256 bools. -/
namespace Go.Proofs.Ytfgeickfheogoaa.Pure
open Go.RowKit Go.Proofs.Ytfgeickfheogoaa.Q Go.Proofs.YtfgeickfheogoaaW.PrintWords Go.Proofs.YtfgeickfheogoaaW.PrintLast Go.Proofs.YtfgeickfheogoaaW.PrintMore
set_option linter.unusedVariables false
set_option linter.unusedSimpArgs false

/-- A grid as a list. -/
def tab (g : Nat → Bool) : List Bool := (List.range 256).map g
theorem tab_get (g : Nat → Bool) (i : Nat) (h : i < 256) : rdOf false (tab g) (i : Int) = g i := by
  simp [rdOf, tab, List.getD_eq_getElem?_getD, h]
theorem tab_congr {g g' : Nat → Bool} (h : ∀ p, p < 256 → g p = g' p) : tab g = tab g' := by
  unfold tab
  apply List.map_congr_left
  intro p hp
  exact h p (by simpa using hp)
/-! the reference's grid -/
/-! the reference's runs -/
end Go.Proofs.Ytfgeickfheogoaa.Pure

/- The region of a box, as the program and the reference have it. -/
namespace Go.Proofs.Ytfgeickfheogoaa.Pure
open Go.RowKit Go.Proofs.Ytfgeickfheogoaa.Q Go.Proofs.YtfgeickfheogoaaW.PrintWords Go.Proofs.YtfgeickfheogoaaW.PrintLast Go.Proofs.YtfgeickfheogoaaW.PrintMore
set_option linter.unusedVariables false
set_option linter.unusedSimpArgs false

theorem scanRow_len (g : Nat → Bool) (y : Nat) : ∀ d x, 17 ≤ x + d → (scanRow g y x).length ≤ 17 - x := by
  intro d
  induction d with
  | zero => intro x hx; rw [scan_end g y x (by omega)]; simp
  | succ d ih =>
    intro x hx
    by_cases h16 : x < 16
    · cases hv : g (y * 16 + x) with
      | true =>
        have := endAt_ge g y (16 - x) x
        rw [scan_true g y x h16 hv, List.length_cons]
        have := ih (endAt g y (16 - x) x + 1) (by omega)
        omega
      | false =>
        rw [scan_false g y x h16 hv]
        have := ih (x + 1) (by omega)
        omega
    · rw [scan_end g y x (by omega)]; simp
theorem runsTo_len (g : Nat → Bool) (n : Nat) : (runsTo g n).length ≤ 17 * n := by
  induction n with
  | zero => simp [runsTo]
  | succ n ih =>
    rw [runsTo_succ, List.length_append]
    have := scanRow_len g n 17 0 (by omega)
    omega
theorem runsL_len (g : Nat → Bool) : (runsL g).length ≤ 272 := runsTo_len g 16
theorem scan_none (g : Nat → Bool) (y : Nat) (h : ∀ x, x < 16 → g (y * 16 + x) = false) : scanRow g y 0 = [] := by
  have : ∀ d x, 16 ≤ x + d → scanRow g y x = [] := by
    intro d
    induction d with
    | zero => intro x hx; exact scan_end g y x (by omega)
    | succ d ih =>
      intro x hx
      by_cases h16 : x < 16
      · rw [scan_false g y x h16 (h x h16)]; exact ih (x + 1) (by omega)
      · exact scan_end g y x (by omega)
  exact this 16 0 (by omega)
theorem scan_seg (g : Nat → Bool) (y a b : Nat) (hab : a < b) (hb : b ≤ 16) (h : ∀ x, x < 16 → g (y * 16 + x) = (decide (a ≤ x) && decide (x < b))) : scanRow g y 0 = [⟨(y : Int), (a : Int), (b : Int)⟩] := by
  have e1 : ∀ d x, x + d = a → scanRow g y x = scanRow g y a := by
    intro d
    induction d with
    | zero => intro x hx; rw [show x = a by omega]
    | succ d ih =>
      intro x hx
      rw [scan_false g y x (by omega) (by rw [h x (by omega)]; simp; omega)]
      exact ih (x + 1) (by omega)
  have e2 : ∀ d x, x + d = b → a ≤ x → endAt g y (16 - x) x = b := by
    intro d
    induction d with
    | zero =>
      intro x hx ha
      rw [show x = b by omega]
      apply endAt_stop
      by_cases hb' : b < 16
      · right; rw [h b hb']; simp
      · left; omega
    | succ d ih =>
      intro x hx ha
      rw [endAt_step g y x (by omega) (by rw [h x (by omega)]; simp; omega)]
      exact ih (x + 1) (by omega) (by omega)
  have e3 : ∀ d x, 16 ≤ x + d → b ≤ x → scanRow g y x = [] := by
    intro d
    induction d with
    | zero => intro x hx _; exact scan_end g y x (by omega)
    | succ d ih =>
      intro x hx hbx
      by_cases h16 : x < 16
      · rw [scan_false g y x h16 (by rw [h x h16]; simp; omega)]
        exact ih (x + 1) (by omega) (by omega)
      · exact scan_end g y x (by omega)
  rw [e1 a 0 (by omega), scan_true g y a (by omega) (by rw [h a (by omega)]; simp; omega), e2 (b - a) a (by omega) (Nat.le_refl _), e3 16 (b + 1) (by omega) (by omega)]
/-- the runs of a box: one a row -/
def boxRuns (b0 b1 b2 b3 : Int) (n : Nat) : List Run := (List.range n).map fun (i : Nat) => ⟨b1 + (i : Int), b0, b0 + b2⟩
theorem boxRuns_succ (b0 b1 b2 b3 : Int) (n : Nat) : boxRuns b0 b1 b2 b3 (n + 1) = boxRuns b0 b1 b2 b3 n ++ [⟨b1 + (n : Int), b0, b0 + b2⟩] := by simp [boxRuns, List.range_succ]
theorem boxOk_iff (b0 b1 b2 b3 : Int) : boxOk b0 b1 b2 b3 = true ↔ 0 ≤ b0 ∧ b0 < 16 ∧ 0 ≤ b1 ∧ b1 < 16 ∧ 1 ≤ b2 ∧ b2 ≤ 16 - b0 ∧ 1 ≤ b3 ∧ b3 ≤ 16 - b1 := by simp [boxOk]
theorem runs_box (b0 b1 b2 b3 : Int) (h : boxOk b0 b1 b2 b3 = true) : runsL (gso (inBox b0 b1 b2 b3) 256) = boxRuns b0 b1 b2 b3 b3.toNat := by
  have h := (boxOk_iff b0 b1 b2 b3).1 h
  have cell : ∀ y x, y < 16 → x < 16 → gso (inBox b0 b1 b2 b3) 256 (y * 16 + x) = inBox b0 b1 b2 b3 x y := by
    intro y x hy hx
    unfold gso
    rw [show (y * 16 + x) % 16 = x by omega, show (y * 16 + x) / 16 = y by omega, decide_eq_true (by omega), Bool.true_and]
  have key : ∀ n : Nat, n ≤ 16 → runsTo (gso (inBox b0 b1 b2 b3) 256) n = boxRuns b0 b1 b2 b3 (min (n : Int) (b1 + b3) - b1).toNat := by
    intro n
    induction n with
    | zero => intro _; rw [show (min ((0 : Nat) : Int) (b1 + b3) - b1).toNat = 0 by omega]; simp [runsTo, boxRuns]
    | succ n ih =>
      intro hn
      rw [runsTo_succ, ih (by omega)]
      by_cases c1 : (n : Int) < b1
      · rw [scan_none _ n (fun x hx => by rw [cell n x (by omega) hx]; unfold inBox; rw [decide_eq_false (show ¬ b1 ≤ (n : Int) by omega), Bool.and_false, Bool.false_and]), List.append_nil]
        congr 1; omega
      · by_cases c2 : (n : Int) < b1 + b3
        · rw [scan_seg _ n b0.toNat (b0 + b2).toNat (by omega) (by omega) (fun x hx => by
            rw [cell n x (by omega) hx]; unfold inBox
            rw [decide_eq_true (show b1 ≤ (n : Int) by omega), decide_eq_true c2, Bool.and_true, Bool.and_true]
            congr 1
            · rw [decide_eq_decide]; omega
            · rw [decide_eq_decide]; omega)]
          rw [show (min ((n + 1 : Nat) : Int) (b1 + b3) - b1).toNat = (min (n : Int) (b1 + b3) - b1).toNat + 1 by omega, boxRuns_succ]
          congr 2
          rw [show b1 + (((min (n : Int) (b1 + b3) - b1).toNat : Nat) : Int) = (n : Int) by omega, show ((b0.toNat : Nat) : Int) = b0 by omega, show (((b0 + b2).toNat : Nat) : Int) = b0 + b2 by omega]
        · rw [scan_none _ n (fun x hx => by rw [cell n x (by omega) hx]; unfold inBox; rw [decide_eq_false c2, Bool.and_false]), List.append_nil]
          congr 1; omega
  have := key 16 (Nat.le_refl _)
  unfold runsL
  rw [this]
  congr 1; omega
/-- what both answer -/
def boxV (b0 b1 b2 b3 : Int) : List Run × Bool := if boxOk b0 b1 b2 b3 = true then (boxRuns b0 b1 b2 b3 b3.toNat, true) else ([], false)
theorem impl_BoxRegion_eq (b0 b1 b2 b3 : Int) : impl_BoxRegion.f b0 b1 b2 b3 = some (boxV b0 b1 b2 b3) := by
  unfold impl_BoxRegion.f boxV
  by_cases h : boxOk b0 b1 b2 b3 = true
  · rw [if_pos h, if_pos h, runs_box b0 b1 b2 b3 h]
  · rw [if_neg h, if_neg h]
theorem boxV_len (b0 b1 b2 b3 : Int) : (boxV b0 b1 b2 b3).1.length ≤ 16 := by
  unfold boxV
  by_cases h : boxOk b0 b1 b2 b3 = true
  · have := (boxOk_iff b0 b1 b2 b3).1 h
    rw [if_pos h]
    show (boxRuns b0 b1 b2 b3 b3.toNat).length ≤ 16
    unfold boxRuns
    rw [List.length_map, List.length_range]
    omega
  · rw [if_neg h]; simp
theorem spec_validBox_eq (b0 b1 b2 b3 : Int) : spec_validBox.f 16 16 0 ([] : List Int) b0 b1 b2 b3 = some (boxOk b0 b1 b2 b3) := by
  unfold spec_validBox.f
  have e16 : wrap64 (16 - 1) = 15 := by rw [w64 (x := 16 - 1) (by omega) (by omega)]; rfl
  rw [e16, inRange_eq' b0 0 15]
  simp only [Option.bind_some]
  by_cases c1 : 0 ≤ b0 ∧ b0 ≤ 15
  · rw [if_pos (by simpa using c1), inRange_eq' b1 0 15]
    simp only [Option.bind_some]
    by_cases c2 : 0 ≤ b1 ∧ b1 ≤ 15
    · rw [if_pos (by simpa using c2), w64 (x := 16 - b0) (by omega) (by omega), w64 (x := 16 - b1) (by omega) (by omega), inRange_eq' b2 1 (16 - b0)]
      simp only [Option.bind_some]
      by_cases c3 : 1 ≤ b2 ∧ b2 ≤ 16 - b0
      · rw [if_pos (by simpa using c3), inRange_eq' b3 1 (16 - b1)]
        simp only [Option.bind_some]
        congr 1
        unfold boxOk
        rw [← Bool.decide_and, decide_eq_decide]
        omega
      · rw [if_neg (by simpa using c3)]
        congr 1; symm; unfold boxOk; rw [decide_eq_false_iff_not]; omega
    · rw [if_neg (by simpa using c2)]
      congr 1; symm; unfold boxOk; rw [decide_eq_false_iff_not]; omega
  · rw [if_neg (by simpa using c1)]
    congr 1; symm; unfold boxOk; rw [decide_eq_false_iff_not]; omega
theorem spec_BoxRegion_ev (b0 b1 b2 b3 : Int) : Ev (fun k => spec_BoxRegion.f k b0 b1 b2 b3) (boxV b0 b1 b2 b3) := by
  unfold spec_BoxRegion.f boxV
  refine ev_now (spec_validBox_eq b0 b1 b2 b3) ?_
  by_cases h : boxOk b0 b1 b2 b3 = true
  · have h' := (boxOk_iff b0 b1 b2 b3).1 h
    refine ev_pos h ?_
    rw [if_pos h]
    have key := ev_up b3.toNat (fun k i (s : List Run) => spec_BoxRegion.l0 k s (b1 + (i : Int)) b0 b1 b2 b3) (fun i s => s = boxRuns b0 b1 b2 b3 i) (fun _ _ => (boxRuns b0 b1 b2 b3 b3.toNat, true))
      (by
        intro i s hi hs
        right
        refine ⟨boxRuns b0 b1 b2 b3 (i + 1), fun k => ?_, rfl, rfl⟩
        simp only [spec_BoxRegion.l0]
        have hlen : s.length = i := by rw [hs]; simp [boxRuns]
        rw [w64 (x := b1 + b3) (by omega) (by omega), w64 (x := b0 + b2) (by omega) (by omega), w64 (x := b1 + (i : Int) + 1) (by omega) (by omega), if_pos (by omega), if_pos (by omega), boxRuns_succ, hs]
        congr 1; omega)
      (by
        intro s hs
        refine Ev.step (f := fun _ => some (s, true)) (fun k => ?_) (ev_const (by rw [hs]))
        simp only [spec_BoxRegion.l0]
        rw [w64 (x := b1 + b3) (by omega) (by omega), if_neg (by omega)])
      b3.toNat 0 [] (by omega) (by simp [boxRuns])
    simpa using key
  · refine ev_neg h ?_
    rw [if_neg h]
    exact ev_const rfl
end Go.Proofs.Ytfgeickfheogoaa.Pure

/- Areas and bounds of regions, as the program and the reference have them. -/
namespace Go.Proofs.Ytfgeickfheogoaa.Pure
open Go.RowKit Go.Proofs.Ytfgeickfheogoaa.Q Go.Proofs.YtfgeickfheogoaaW.PrintWords Go.Proofs.YtfgeickfheogoaaW.PrintLast Go.Proofs.YtfgeickfheogoaaW.PrintMore
set_option linter.unusedVariables false
set_option linter.unusedSimpArgs false

def areaR (l : List Run) : Int := (l.map fun r => r.f2 - r.f1).sum
theorem areaR_drop (l : List Run) (i : Nat) (h : i < l.length) : areaR (l.drop i) = (l[i].f2 - l[i].f1) + areaR (l.drop (i + 1)) := by
  rw [List.drop_eq_getElem_cons h]; unfold areaR; rw [List.map_cons, List.sum_cons]
theorem impl_AreaOf_eq (l : List Run) (hl : l.length ≤ 1000000000) (k : Nat) (hk : 2 * l.length + 1 < k) : impl_AreaOf.f k l = some (if validR l = true then areaR l else -1) := by
  unfold impl_AreaOf.f
  rw [impl_isRegion_eq l (by omega) k (by omega)]
  simp only [Option.bind_some]
  by_cases hv : validR l = true
  · rw [if_pos hv, if_pos hv]
    have hok := valid_ok hv
    have h := loop_up 0 l.length (fun k i s => impl_AreaOf.l0 k s l (l.length : Int) (i : Int)) (fun i s => 0 ≤ s ∧ s ≤ 16 * (i : Int)) (fun i s => s + areaR (l.drop i))
      (by
        intro i s k hi hs _
        have ho := (runOK_iff _).1 (hok l[i] (List.getElem_mem hi))
        refine .inr ⟨s + (l[i].f2 - l[i].f1), ?_, by constructor <;> omega, by rw [areaR_drop l i hi]; omega⟩
        simp only [impl_AreaOf.l0]
        rw [if_pos (by omega), if_pos (by omega), if_pos (by omega), rdRun l i hi, w64n i (by omega), w64 (x := l[i].f2 - l[i].f1) (by omega) (by omega), w64 (by omega) (by omega)])
      (by
        intro s k hs _
        simp only [impl_AreaOf.l0]
        rw [if_neg (by omega), List.drop_length]; simp [areaR])
      l.length 0 0 k (by omega) (by omega) (by omega)
    simpa using h
  · rw [if_neg hv, if_neg hv]
end Go.Proofs.Ytfgeickfheogoaa.Pure

/- The reader of draws: whatever the code's bytes are, it answers, in range. -/
namespace Go.Proofs.Ytfgeickfheogoaa.Pure
open Go.RowKit Go.Proofs.Ytfgeickfheogoaa.Q Go.Proofs.YtfgeickfheogoaaW.PrintWords Go.Proofs.YtfgeickfheogoaaW.PrintLast Go.Proofs.YtfgeickfheogoaaW.PrintMore
set_option linter.unusedVariables false
set_option linter.unusedSimpArgs false

/-- What a reader reads from: at most 2000 bytes. -/
def Bytes (b : List Int) : Prop := b.length ≤ 2000 ∧ ∀ x ∈ b, 0 ≤ x ∧ x ≤ 255
theorem Bytes.rd_ {b : List Int} (h : Bytes b) (i : Int) : 0 ≤ rd b i ∧ rd b i ≤ 255 := by
  unfold rd
  by_cases c : i.toNat < b.length
  · rw [List.getD_eq_getElem?_getD, List.getElem?_eq_getElem c]; exact h.2 _ (List.getElem_mem c)
  · rw [List.getD_eq_getElem?_getD, List.getElem?_eq_none (by omega)]; simp
theorem xor_nn (a b : Int) (ha : 0 ≤ a) (ha' : a < 4611686018427387904) (hb : 0 ≤ b) (hb' : b < 4611686018427387904) : 0 ≤ Go.bits .xor .i64 a b := by
  obtain ⟨a, rfl⟩ := Int.eq_ofNat_of_zero_le ha
  obtain ⟨b, rfl⟩ := Int.eq_ofNat_of_zero_le hb
  have ha2 : a < 2 ^ 62 := by have : (2 : Nat) ^ 62 = 4611686018427387904 := by decide +kernel
                              omega
  have hb2 : b < 2 ^ 62 := by have : (2 : Nat) ^ 62 = 4611686018427387904 := by decide +kernel
                              omega
  have e64 : IntKind.bits .i64 = 64 := rfl
  have hx := Nat.xor_lt_two_pow ha2 hb2
  have h62 : (2 : Nat) ^ 62 = 4611686018427387904 := by decide +kernel
  have h64 : (2 : Nat) ^ 64 = 18446744073709551616 := by decide +kernel
  simp only [Go.bits, BitVec.ofInt_natCast, BitVec.toNat_xor, BitVec.toNat_ofNat, e64]
  rw [Nat.mod_eq_of_lt (by omega), Nat.mod_eq_of_lt (by omega), IntKind.wrap_i64]
  generalize a ^^^ b = z at *
  omega
theorem tmod_range (x n : Int) (hx : 0 ≤ x) (hn : 1 ≤ n) : 0 ≤ Int.tmod x n ∧ Int.tmod x n < n := by
  rw [tmod_nn _ _ hx]
  exact ⟨Int.emod_nonneg _ (by omega), Int.emod_lt_of_pos _ (by omega)⟩
theorem pick_at (b : List Int) (p n : Int) (hb : Bytes b) (hp0 : 0 ≤ p) (hp : p ≤ 1000000000000) :
    ∃ v, (∀ k, 0 < k → spec_reader_pick.f k b p n = some (v, p + 1)) ∧ 0 ≤ v ∧ (1 ≤ n → v < n) ∧ (n < 1 → v = 0) := by
  by_cases hn : n < 1
  · refine ⟨0, fun k hk => ?_, by omega, by omega, fun _ => rfl⟩
    obtain ⟨k, rfl⟩ : ∃ m, k = m + 1 := ⟨k - 1, by omega⟩
    unfold spec_reader_pick.f
    rw [if_pos hn, w64 (by omega) (by omega)]
    simp only [spec_reader_pick.j0, if_true]
  by_cases he : b.length = 0
  · refine ⟨0, fun k hk => ?_, by omega, by omega, fun _ => rfl⟩
    obtain ⟨k, rfl⟩ : ∃ m, k = m + 1 := ⟨k - 1, by omega⟩
    unfold spec_reader_pick.f
    rw [if_neg hn, w64 (by omega) (by omega)]
    simp only [spec_reader_pick.j0, he]; simp
  have hlen := hb.1
  by_cases hlt : p < (b.length : Int)
  · have hr := hb.rd_ p
    have ht := tmod_range (rd b p) n hr.1 (by omega)
    refine ⟨Int.tmod (rd b p) n, fun k hk => ?_, ht.1, fun _ => ht.2, by omega⟩
    obtain ⟨k, rfl⟩ : ∃ m, k = m + 1 := ⟨k - 1, by omega⟩
    unfold spec_reader_pick.f
    rw [if_neg hn, w64 (x := p + 1) (by omega) (by omega)]
    simp only [spec_reader_pick.j0]
    rw [if_neg (by simp only [beq_iff_eq]; omega), w64 (x := p + 1 - 1) (by omega) (by omega), show p + 1 - 1 = p by omega, if_pos hlt, if_pos hp0, if_neg (by omega), w64 (x := rd b p) (by omega) (by omega)]
  · have h1 := tmod_range p (b.length : Int) hp0 (by omega)
    have h2 := tmod_range (p * 7 + 3) (b.length : Int) (by omega) (by omega)
    have r1 := hb.rd_ (Int.tmod p (b.length : Int))
    have r2 := hb.rd_ (Int.tmod (p * 7 + 3) (b.length : Int))
    have hd : 0 ≤ Int.tdiv p (b.length : Int) ∧ Int.tdiv p (b.length : Int) ≤ p := by
      rw [tdiv_nn _ _ hp0]
      exact ⟨Int.ediv_nonneg hp0 (by omega), Int.ediv_le_self _ hp0⟩
    generalize h1e : Int.tmod p (b.length : Int) = t1 at *
    generalize h2e : Int.tmod (p * 7 + 3) (b.length : Int) = t2 at *
    generalize hde : Int.tdiv p (b.length : Int) = d at *
    generalize hr1e : rd b t1 = x1 at *
    generalize hr2e : rd b t2 = x2 at *
    have hx := xor_nn (x1 * 131 + x2 * 1117 + p * 29 + d * 53) ((x1 * 131 + x2 * 1117 + p * 29 + d * 53) / 64) (by omega) (by omega) (by omega) (by omega)
    have ht := tmod_range _ n hx (by omega)
    refine ⟨Int.tmod (Go.bits .xor .i64 (x1 * 131 + x2 * 1117 + p * 29 + d * 53) ((x1 * 131 + x2 * 1117 + p * 29 + d * 53) / 64)) n, fun k hk => ?_, ht.1, fun _ => ht.2, by omega⟩
    obtain ⟨k, rfl⟩ : ∃ m, k = m + 1 := ⟨k - 1, by omega⟩
    unfold spec_reader_pick.f
    rw [if_neg hn, w64 (x := p + 1) (by omega) (by omega)]
    simp only [spec_reader_pick.j0]
    rw [if_neg (by simp only [beq_iff_eq]; omega), w64 (x := p + 1 - 1) (by omega) (by omega), show p + 1 - 1 = p by omega, if_neg hlt, if_neg (by omega),
      w64 (x := p * 7) (by omega) (by omega), w64 (x := p * 7 + 3) (by omega) (by omega), h1e, h2e, hde, hr1e, hr2e, if_pos (by omega), if_pos (by omega), if_pos (by omega), if_pos (by omega), if_neg (by omega),
      w64 (x := x1) (by omega) (by omega), w64 (x := x2) (by omega) (by omega), w64 (x := d) (by omega) (by omega), w64 (x := x1 * 131) (by omega) (by omega), w64 (x := x2 * 1117) (by omega) (by omega), w64 (x := p * 29) (by omega) (by omega), w64 (x := d * 53) (by omega) (by omega),
      w64 (x := x1 * 131 + x2 * 1117) (by omega) (by omega), w64 (x := x1 * 131 + x2 * 1117 + p * 29) (by omega) (by omega), w64 (x := x1 * 131 + x2 * 1117 + p * 29 + d * 53) (by omega) (by omega), tdiv_nn _ 64 (by omega),
      w64 (x := (x1 * 131 + x2 * 1117 + p * 29 + d * 53) / 64) (by omega) (by omega)]
theorem one_at (b : List Int) (p : Int) (l : List Int) (hl : 0 < l.length) (hl' : l.length ≤ 1000) (hb : Bytes b) (hp0 : 0 ≤ p) (hp : p ≤ 1000000000000) :
    ∃ v, (∀ k, 0 < k → spec_reader_one.f k b p l = some (v, p + 1)) ∧ v ∈ l := by
  obtain ⟨v, hv, h0, h1, _⟩ := pick_at b p (l.length : Int) hb hp0 hp
  have h1' := h1 (by omega)
  obtain ⟨v, rfl⟩ := Int.eq_ofNat_of_zero_le h0
  refine ⟨l[v]'(by omega), fun k hk => ?_, List.getElem_mem _⟩
  unfold spec_reader_one.f
  rw [hv k hk]
  simp only [Option.bind_some]
  rw [if_pos (by omega), if_pos (by omega), rd_nat l v (by omega)]
theorem newReader_at (l : List Int) (h : ∀ x ∈ l, 0 ≤ x ∧ x ≤ 255) : ∃ b, spec_newReader.f l = some (b, 0) ∧ Bytes b := by
  unfold spec_newReader.f
  by_cases c : (l.length : Int) > 2000
  · rw [if_pos c, if_pos (by omega)]
    exact ⟨_, rfl, by rw [List.length_take]; omega, fun x hx => h x (List.mem_of_mem_take hx)⟩
  · rw [if_neg c]
    exact ⟨_, rfl, by omega, h⟩
/-- What a law is told of its code: bytes. -/
theorem code_bytes (l : List Int) (h : ∀ x ∈ l, (Lit.int .u8 x).wf = true) : ∀ x ∈ l, 0 ≤ x ∧ x ≤ 255 := by
  intro x hx
  have := h x hx
  simp only [Lit.wf, Bool.and_eq_true, decide_eq_true_eq] at this
  have e1 : IntKind.min .u8 = 0 := by decide
  have e2 : IntKind.max .u8 = 255 := by decide
  omega
end Go.Proofs.Ytfgeickfheogoaa.Pure

/- Boxes that are drawn from code, and what equal runs are. -/
namespace Go.Proofs.Ytfgeickfheogoaa.Pure
open Go.RowKit Go.Proofs.Ytfgeickfheogoaa.Q Go.Proofs.YtfgeickfheogoaaW.PrintWords Go.Proofs.YtfgeickfheogoaaW.PrintLast Go.Proofs.YtfgeickfheogoaaW.PrintMore
set_option linter.unusedVariables false
set_option linter.unusedSimpArgs false

theorem equalRuns_refl (l : List Run) (hl : l.length ≤ 1000000000000) : Ev (fun k => laws_equalRuns.f k l l) true := by
  have h := ev_up l.length (fun k i (_ : Unit) => laws_equalRuns.l0 k l l (i : Int)) (fun _ _ => True) (fun _ _ => true)
    (by
      intro i s hi _
      refine .inr ⟨(), fun k => ?_, trivial, rfl⟩
      simp only [laws_equalRuns.l0]
      rw [if_pos (by omega), if_pos (by omega), if_pos (by omega), w64n i (by omega)]
      simp)
    (by
      intro s _
      refine Ev.step (f := fun _ => some true) (fun k => ?_) (ev_const rfl)
      simp only [laws_equalRuns.l0]
      rw [if_neg (by omega)])
    l.length 0 () (by omega) trivial
  unfold laws_equalRuns.f
  exact ev_pos rfl (by simpa using h)
theorem drawBox (code : List Int) (hw : ∀ x ∈ code, (Lit.int .u8 x).wf = true) : ∃ b0 b1 b2 b3 : Int, Ev (fun k => spec_DrawBoxRegion.f k code) (b0, b1, b2, b3) := by
  obtain ⟨b, hb, hB⟩ := newReader_at code (code_bytes code hw)
  obtain ⟨x0, h0, _⟩ := one_at b 0 [0, 1, 2, (-1), 0, 4] (by simp) (by simp) hB (by omega) (by omega)
  obtain ⟨x1, h1, _⟩ := one_at b (0 + 1) [0, 1, 0, 2, (-1)] (by simp) (by simp) hB (by omega) (by omega)
  obtain ⟨x2, h2, _⟩ := one_at b (0 + 1 + 1) [1, 2, 3, 1, 0, 16] (by simp) (by simp) hB (by omega) (by omega)
  obtain ⟨x3, h3, _⟩ := one_at b (0 + 1 + 1 + 1) [1, 2, 1, 3, 0] (by simp) (by simp) hB (by omega) (by omega)
  obtain ⟨v, hv, _⟩ := pick_at b (0 + 1 + 1 + 1 + 1) 8 hB (by omega) (by omega)
  obtain ⟨y0, g0, _⟩ := one_at b (0 + 1 + 1 + 1 + 1 + 1) [0, 15, 16] (by simp) (by simp) hB (by omega) (by omega)
  obtain ⟨y1, g1, _⟩ := one_at b (0 + 1 + 1 + 1 + 1 + 1 + 1) [0, 15] (by simp) (by simp) hB (by omega) (by omega)
  obtain ⟨y2, g2, _⟩ := one_at b (0 + 1 + 1 + 1 + 1 + 1 + 1 + 1) [1, 16, 17] (by simp) (by simp) hB (by omega) (by omega)
  obtain ⟨y3, g3, _⟩ := one_at b (0 + 1 + 1 + 1 + 1 + 1 + 1 + 1 + 1) [1, 16] (by simp) (by simp) hB (by omega) (by omega)
  have ha : Ev (fun k => spec_anyBox.f k b 0) (x0, x1, x2, x3, 0 + 1 + 1 + 1 + 1) := by
    unfold spec_anyBox.f
    exact ev_bind (ev_of 0 h0) (ev_bind (ev_of 0 h1) (ev_bind (ev_of 0 h2) (ev_bind (ev_of 0 h3) (Ev.now _))))
  by_cases c : v = 0
  · refine ⟨y0, y1, y2, y3, ?_⟩
    unfold spec_DrawBoxRegion.f
    exact ev_now hb (ev_bind ha (ev_bind (ev_of 0 hv) (ev_pos c (ev_bind (ev_of 0 g0) (ev_bind (ev_of 0 g1) (ev_bind (ev_of 0 g2) (ev_bind (ev_of 0 g3) (Ev.now _))))))))
  · refine ⟨x0, x1, x2, x3, ?_⟩
    unfold spec_DrawBoxRegion.f
    exact ev_now hb (ev_bind ha (ev_bind (ev_of 0 hv) (ev_neg c (Ev.now _))))
/-! a box's runs are a region's -/
theorem boxRuns_length (b0 b1 b2 b3 : Int) (n : Nat) : (boxRuns b0 b1 b2 b3 n).length = n := by simp [boxRuns]
theorem boxRuns_get (b0 b1 b2 b3 : Int) (n i : Nat) (h : i < (boxRuns b0 b1 b2 b3 n).length) : (boxRuns b0 b1 b2 b3 n)[i] = ⟨b1 + (i : Int), b0, b0 + b2⟩ := by simp [boxRuns]
theorem box_valid (b0 b1 b2 b3 : Int) (h : boxOk b0 b1 b2 b3 = true) : validR (boxRuns b0 b1 b2 b3 b3.toNat) = true := by
  have h := (boxOk_iff b0 b1 b2 b3).1 h
  have key : ∀ d i, i + d = b3.toNat → validFrom (before (boxRuns b0 b1 b2 b3 b3.toNat) i) ((boxRuns b0 b1 b2 b3 b3.toNat).drop i) = true := by
    intro d
    induction d with
    | zero => intro i hi; rw [List.drop_of_length_le (by rw [boxRuns_length]; omega)]; cases before (boxRuns b0 b1 b2 b3 b3.toNat) i <;> rfl
    | succ d ih =>
      intro i hi
      rw [validFrom_at _ i (by rw [boxRuns_length]; omega), ih (i + 1) (by omega), Bool.and_true, boxRuns_get]
      have e1 : runOK (⟨b1 + (i : Int), b0, b0 + b2⟩ : Run) = true := (runOK_iff _).2 (by simp only; omega)
      rw [e1, Bool.true_and]
      cases i with
      | zero => rfl
      | succ i =>
        rw [before_succ _ i (by rw [boxRuns_length]; omega), boxRuns_get]
        exact (runAfter_iff _ _).2 (by simp only; omega)
  exact key b3.toNat 0 (by omega)
theorem box_area (b0 b1 b2 b3 : Int) (n : Nat) : areaR (boxRuns b0 b1 b2 b3 n) = b2 * (n : Int) := by
  induction n with
  | zero => simp [areaR, boxRuns]
  | succ n ih =>
    rw [boxRuns_succ]
    have : areaR (boxRuns b0 b1 b2 b3 n ++ [⟨b1 + (n : Int), b0, b0 + b2⟩]) = areaR (boxRuns b0 b1 b2 b3 n) + b2 := by
      unfold areaR
      rw [List.map_append, List.sum_append]
      simp; omega
    rw [this, ih]
    have : ((n + 1 : Nat) : Int) = (n : Int) + 1 := by omega
    rw [this, Int.mul_add]; omega
end Go.Proofs.Ytfgeickfheogoaa.Pure

/- Neighbours of a grid's pixels, by their numbers; a loop that fills a grid. -/
namespace Go.Proofs.Ytfgeickfheogoaa.Pure
open Go.RowKit Go.Proofs.Ytfgeickfheogoaa.Q Go.Proofs.YtfgeickfheogoaaW.PrintWords Go.Proofs.YtfgeickfheogoaaW.PrintLast Go.Proofs.YtfgeickfheogoaaW.PrintMore
set_option linter.unusedVariables false
set_option linter.unusedSimpArgs false

theorem gso_at (so : Nat → Nat → Bool) (p : Nat) (h : p < 256) : gso so 256 p = so (p % 16) (p / 16) := by
  unfold gso; rw [decide_eq_true h, Bool.true_and]
def rdT (g : Nat → Bool) (i : Int) : Bool := rdOf false (tab g) i
theorem rdT_nat (g : Nat → Bool) (i : Nat) (h : i < 256) : rdT g (i : Int) = g i := tab_get g i h
theorem hasP_no (g : Nat → Bool) (x y : Int) (h : x < 0 ∨ 16 ≤ x ∨ y < 0 ∨ 16 ≤ y) : hasP g x y = false := by
  rw [← Bool.not_eq_true, hasP_iff]; omega
theorem hasP_at (g : Nat → Bool) (x y : Int) (r : Nat) (hr : r < 256) (hx : x = ((r % 16 : Nat) : Int)) (hy : y = ((r / 16 : Nat) : Int)) : hasP g x y = g r := by
  rw [hx, hy, hasP_nat g r hr]
theorem has_left (g : Nat → Bool) (p : Nat) (hp : p < 256) : hasP g (((p % 16 : Nat) : Int) - 1) ((p / 16 : Nat) : Int) = (decide (((p % 16 : Nat) : Int) > 0) && rdT g ((p : Int) - 1)) := by
  by_cases c : ((p % 16 : Nat) : Int) > 0
  · rw [decide_eq_true c, Bool.true_and, hasP_at g _ _ (p - 1) (by omega) (by omega) (by omega), show (p : Int) - 1 = ((p - 1 : Nat) : Int) by omega, rdT_nat g _ (by omega)]
  · rw [decide_eq_false c, Bool.false_and, hasP_no g _ _ (by omega)]
theorem has_right (g : Nat → Bool) (p : Nat) (hp : p < 256) : hasP g (((p % 16 : Nat) : Int) + 1) ((p / 16 : Nat) : Int) = (decide (((p % 16 : Nat) : Int) < 15) && rdT g ((p : Int) + 1)) := by
  by_cases c : ((p % 16 : Nat) : Int) < 15
  · rw [decide_eq_true c, Bool.true_and, hasP_at g _ _ (p + 1) (by omega) (by omega) (by omega), show (p : Int) + 1 = ((p + 1 : Nat) : Int) by omega, rdT_nat g _ (by omega)]
  · rw [decide_eq_false c, Bool.false_and, hasP_no g _ _ (by omega)]
theorem has_up (g : Nat → Bool) (p : Nat) (hp : p < 256) : hasP g ((p % 16 : Nat) : Int) (((p / 16 : Nat) : Int) - 1) = (decide (((p / 16 : Nat) : Int) > 0) && rdT g ((p : Int) - 16)) := by
  by_cases c : ((p / 16 : Nat) : Int) > 0
  · rw [decide_eq_true c, Bool.true_and, hasP_at g _ _ (p - 16) (by omega) (by omega) (by omega), show (p : Int) - 16 = ((p - 16 : Nat) : Int) by omega, rdT_nat g _ (by omega)]
  · rw [decide_eq_false c, Bool.false_and, hasP_no g _ _ (by omega)]
theorem has_down (g : Nat → Bool) (p : Nat) (hp : p < 256) : hasP g ((p % 16 : Nat) : Int) (((p / 16 : Nat) : Int) + 1) = (decide (((p / 16 : Nat) : Int) < 15) && rdT g ((p : Int) + 16)) := by
  by_cases c : ((p / 16 : Nat) : Int) < 15
  · rw [decide_eq_true c, Bool.true_and, hasP_at g _ _ (p + 16) (by omega) (by omega) (by omega), show (p : Int) + 16 = ((p + 16 : Nat) : Int) by omega, rdT_nat g _ (by omega)]
  · rw [decide_eq_false c, Bool.false_and, hasP_no g _ _ (by omega)]
def innerT (g : Nat → Bool) (p : Nat) : Bool :=
  decide (((p % 16 : Nat) : Int) > 0) && (decide (((p % 16 : Nat) : Int) < 15) && (decide (((p / 16 : Nat) : Int) > 0) && (decide (((p / 16 : Nat) : Int) < 15) && (rdT g ((p : Int) - 1) && (rdT g ((p : Int) + 1) && (rdT g ((p : Int) - 16) && rdT g ((p : Int) + 16)))))))
theorem edge_is (g : Nat → Bool) (p : Nat) (hp : p < 256) : (g p && !(innerT g p)) = gso (edgeP g) 256 p := by
  rw [gso_at _ _ hp]
  unfold edgeP nbAll innerT
  rw [has_left g p hp, has_right g p hp, has_up g p hp, has_down g p hp, show p / 16 * 16 + p % 16 = p by omega]
  generalize decide (((p % 16 : Nat) : Int) > 0) = a1
  generalize decide (((p % 16 : Nat) : Int) < 15) = a2
  generalize decide (((p / 16 : Nat) : Int) > 0) = a3
  generalize decide (((p / 16 : Nat) : Int) < 15) = a4
  generalize rdT g ((p : Int) - 1) = a5
  generalize rdT g ((p : Int) + 1) = a6
  generalize rdT g ((p : Int) - 16) = a7
  generalize rdT g ((p : Int) + 16) = a8
  congr 2
  ac_rfl
end Go.Proofs.Ytfgeickfheogoaa.Pure

/- The runs of a grid are a region: their grid is the grid, and their area is the number of its pixels. -/
namespace Go.Proofs.Ytfgeickfheogoaa.Pure
open Go.RowKit Go.Proofs.Ytfgeickfheogoaa.Q Go.Proofs.YtfgeickfheogoaaW.PrintWords Go.Proofs.YtfgeickfheogoaaW.PrintLast Go.Proofs.YtfgeickfheogoaaW.PrintMore
set_option linter.unusedVariables false
set_option linter.unusedSimpArgs false

theorem endAt_le (g : Nat → Bool) (y : Nat) : ∀ n x, x ≤ 16 → endAt g y n x ≤ 16 := by
  intro n
  induction n with
  | zero => intro x h; exact h
  | succ n ih =>
    intro x h
    unfold endAt
    split
    · rename_i c; exact ih (x + 1) (by omega)
    · exact h
theorem endAt_in (g : Nat → Bool) (y : Nat) : ∀ n x q, x ≤ q → q < endAt g y n x → g (y * 16 + q) = true := by
  intro n
  induction n with
  | zero => intro x q h1 h2; exact absurd h2 (by simp only [endAt]; omega)
  | succ n ih =>
    intro x q h1 h2
    unfold endAt at h2
    split at h2
    · rename_i c
      by_cases e : q = x
      · subst e; exact c.2
      · exact ih (x + 1) q (by omega) h2
    · omega
theorem endAt_end (g : Nat → Bool) (y : Nat) : ∀ n x, 16 ≤ n + x → x ≤ 16 → endAt g y n x = 16 ∨ g (y * 16 + endAt g y n x) = false := by
  intro n
  induction n with
  | zero => intro x h1 h2; left; simp only [endAt]; omega
  | succ n ih =>
    intro x h1 h2
    unfold endAt
    split
    · rename_i c; exact ih (x + 1) (by omega) (by omega)
    · rename_i c
      by_cases hx : x < 16
      · right
        cases hv : g (y * 16 + x) with
        | true => exact absurd ⟨hx, hv⟩ c
        | false => rfl
      · left; omega
theorem runIn_row (y p : Nat) (a b : Nat) : runIn ⟨(y : Int), (a : Int), (b : Int)⟩ p = (decide (p / 16 = y) && (decide (a ≤ p % 16) && decide (p % 16 < b))) := by
  unfold runIn
  rw [Bool.and_assoc]
  congr 1
  · rw [decide_eq_decide]; simp only; omega
  · congr 1
    · rw [decide_eq_decide]; simp only; omega
    · rw [decide_eq_decide]; simp only; omega
theorem gridF_nil (p : Nat) : gridF [] p = false := rfl
theorem gridF_cons (r : Run) (l : List Run) (p : Nat) : gridF (r :: l) p = (runIn r p || gridF l p) := rfl
theorem gridF_append (l m : List Run) (p : Nat) : gridF (l ++ m) p = (gridF l p || gridF m p) := by unfold gridF; rw [List.any_append]
theorem grid_scan (g : Nat → Bool) (y p : Nat) (hp : p < 256) : ∀ d x, 17 ≤ x + d → gridF (scanRow g y x) p = (decide (p / 16 = y) && (decide (x ≤ p % 16) && g p)) := by
  intro d
  induction d with
  | zero =>
    intro x hx
    rw [scan_end g y x (by omega), gridF_nil, decide_eq_false (show ¬ x ≤ p % 16 by omega), Bool.false_and, Bool.and_false]
  | succ d ih =>
    intro x hx
    by_cases h16 : x < 16
    · by_cases hy : p / 16 = y
      · have hpe : p = y * 16 + p % 16 := by omega
        cases hv : g (y * 16 + x) with
        | true =>
          have he := endAt_ge g y (16 - x) x
          have he2 := endAt_le g y (16 - x) x (by omega)
          have hin := endAt_in g y (16 - x) x
          have hend := endAt_end g y (16 - x) x (by omega) (by omega)
          have hst := endAt_step g y x h16 hv
          have he3 := endAt_ge g y (16 - (x + 1)) (x + 1)
          rw [← hst] at he3
          rw [scan_true g y x h16 hv, gridF_cons, runIn_row, ih _ (by omega)]
          generalize endAt g y (16 - x) x = e at *
          rw [decide_eq_true hy, Bool.true_and, Bool.true_and, Bool.true_and]
          by_cases c1 : x ≤ p % 16
          · rw [decide_eq_true c1, Bool.true_and, Bool.true_and]
            by_cases c2 : p % 16 < e
            · rw [decide_eq_true c2, Bool.true_or, hpe, hin (p % 16) c1 c2]
            · rw [decide_eq_false c2, Bool.false_or]
              by_cases c3 : e + 1 ≤ p % 16
              · rw [decide_eq_true c3, Bool.true_and]
              · rw [decide_eq_false c3, Bool.false_and]
                rcases hend with h | h
                · omega
                · rw [show p % 16 = e by omega] at hpe
                  rw [hpe, h]
          · rw [decide_eq_false c1, Bool.false_and, Bool.false_and, Bool.false_or, decide_eq_false (show ¬ e + 1 ≤ p % 16 by omega), Bool.false_and]
        | false =>
          rw [scan_false g y x h16 hv, ih _ (by omega), decide_eq_true hy, Bool.true_and, Bool.true_and]
          by_cases c : x = p % 16
          · rw [decide_eq_false (show ¬ x + 1 ≤ p % 16 by omega), Bool.false_and, decide_eq_true (show x ≤ p % 16 by omega), Bool.true_and, hpe, ← c, hv]
          · congr 1
            rw [decide_eq_decide]; omega
      · have hall : ∀ d x, 17 ≤ x + d → gridF (scanRow g y x) p = false := by
          intro d
          induction d with
          | zero => intro x hx; rw [scan_end g y x (by omega)]; rfl
          | succ d ih =>
            intro x hx
            by_cases h16 : x < 16
            · cases hv : g (y * 16 + x) with
              | true =>
                have := endAt_ge g y (16 - x) x
                rw [scan_true g y x h16 hv, gridF_cons, runIn_row, decide_eq_false hy, Bool.false_and, Bool.false_or]
                exact ih _ (by omega)
              | false => rw [scan_false g y x h16 hv]; exact ih _ (by omega)
            · rw [scan_end g y x (by omega)]; rfl
        rw [hall 17 x (by omega), decide_eq_false hy, Bool.false_and]
    · rw [scan_end g y x (by omega), gridF_nil, decide_eq_false (show ¬ x ≤ p % 16 by omega), Bool.false_and, Bool.and_false]
theorem grid_runsTo (g : Nat → Bool) (p : Nat) (hp : p < 256) (n : Nat) : gridF (runsTo g n) p = (decide (p / 16 < n) && g p) := by
  induction n with
  | zero => simp [runsTo, gridF]
  | succ n ih =>
    rw [runsTo_succ, gridF_append, ih, grid_scan g n p hp 17 0 (by omega), decide_eq_true (Nat.zero_le _), Bool.true_and]
    by_cases c : p / 16 = n
    · rw [decide_eq_true c, decide_eq_false (show ¬ p / 16 < n by omega), decide_eq_true (show p / 16 < n + 1 by omega), Bool.false_and, Bool.false_or]
    · rw [decide_eq_false c, Bool.false_and, Bool.or_false]
      congr 1
      rw [decide_eq_decide]; omega
/-- The grid of a grid's runs is the grid. -/
theorem grid_runs (g : Nat → Bool) (p : Nat) (hp : p < 256) : gridF (runsL g) p = g p := by
  unfold runsL
  rw [grid_runsTo g p hp, decide_eq_true (show p / 16 < 16 by omega), Bool.true_and]
/-! the runs are valid -/
def rowsFrom (g : Nat → Bool) (y n : Nat) : List Run := (List.range' y n).flatMap fun y => scanRow g y 0
theorem rowsFrom_succ (g : Nat → Bool) (y n : Nat) : rowsFrom g y (n + 1) = scanRow g y 0 ++ rowsFrom g (y + 1) n := by
  simp [rowsFrom, List.range'_succ]
theorem runsL_rows (g : Nat → Bool) : runsL g = rowsFrom g 0 16 := by
  unfold runsL runsTo rowsFrom
  rw [List.range_eq_range']
/-- the run before, if there is one, lies ahead of column x of row y -/
def ahead (y x : Nat) (p : Option Run) : Prop := ∀ r, p = some r → r.f0 < (y : Int) ∨ (r.f0 = (y : Int) ∧ r.f2 < (x : Int))
theorem scan_valid (g : Nat → Bool) (y : Nat) (hy : y < 16) (rest : List Run) (hrest : ∀ p, (∀ r, p = some r → r.f0 ≤ (y : Int)) → validFrom p rest = true) :
    ∀ d x p, 17 ≤ x + d → (ahead y x p ∨ (x = 0 ∧ ∀ r, p = some r → r.f0 < (y : Int))) → validFrom p (scanRow g y x ++ rest) = true := by
  intro d
  induction d with
  | zero =>
    intro x p hx hp
    rw [scan_end g y x (by omega), List.nil_append]
    refine hrest p (fun r hr => ?_)
    rcases hp with hp | hp
    · have := hp r hr; omega
    · have := hp.2 r hr; omega
  | succ d ih =>
    intro x p hx hp
    by_cases h16 : x < 16
    · cases hv : g (y * 16 + x) with
      | true =>
        have he2 := endAt_le g y (16 - x) x (by omega)
        have hst := endAt_step g y x h16 hv
        have he3 := endAt_ge g y (16 - (x + 1)) (x + 1)
        rw [← hst] at he3
        rw [scan_true g y x h16 hv, List.cons_append]
        generalize endAt g y (16 - x) x = e at *
        have hok : runOK ⟨(y : Int), (x : Int), (e : Int)⟩ = true := by rw [runOK_iff]; simp only; omega
        have hnext : validFrom (some ⟨(y : Int), (x : Int), (e : Int)⟩) (scanRow g y (e + 1) ++ rest) = true := by
          refine ih (e + 1) _ (by omega) (.inl (fun r hr => ?_))
          injection hr with hr
          subst hr
          right
          simp only
          exact ⟨trivial, by omega⟩
        cases p with
        | none => simp only [validFrom, hok, hnext, Bool.and_true]
        | some q =>
          have haft : runAfter q ⟨(y : Int), (x : Int), (e : Int)⟩ = true := by
            rw [runAfter_iff]
            simp only
            rcases hp with hp | hp
            · have := hp q rfl; omega
            · have := hp.2 q rfl; omega
          simp only [validFrom, hok, haft, hnext, Bool.and_true]
      | false =>
        rw [scan_false g y x h16 hv]
        refine ih (x + 1) p (by omega) (.inl (fun r hr => ?_))
        rcases hp with hp | hp
        · have := hp r hr; omega
        · have := hp.2 r hr; omega
    · rw [scan_end g y x (by omega), List.nil_append]
      refine hrest p (fun r hr => ?_)
      rcases hp with hp | hp
      · have := hp r hr; omega
      · have := hp.2 r hr; omega
theorem rows_valid (g : Nat → Bool) : ∀ n y : Nat, y + n ≤ 16 → ∀ p : Option Run, (∀ r, p = some r → r.f0 < (y : Int)) → validFrom p (rowsFrom g y n) = true := by
  intro n
  induction n with
  | zero =>
    intro y _ p _
    cases p <;> rfl
  | succ n ih =>
    intro y hy p hp
    rw [rowsFrom_succ]
    exact scan_valid g y (by omega) _ (fun p' hp' => ih (y + 1) (by omega) p' (fun r hr => by have := hp' r hr; omega)) 17 0 p (by omega) (.inr ⟨rfl, hp⟩)
/-- The runs of a grid are a region. -/
theorem runs_valid (g : Nat → Bool) : validR (runsL g) = true := by
  rw [runsL_rows]
  exact rows_valid g 16 0 (by omega) none (fun r hr => by cases hr)
/-! their area -/
def countG (g : Nat → Bool) : Nat := (List.range 256).countP g
theorem areaR_append (l m : List Run) : areaR (l ++ m) = areaR l + areaR m := by unfold areaR; rw [List.map_append, List.sum_append]
theorem areaR_cons (r : Run) (l : List Run) : areaR (r :: l) = (r.f2 - r.f1) + areaR l := by unfold areaR; rw [List.map_cons, List.sum_cons]
def cntRow (g : Nat → Bool) (y x n : Nat) : Nat := (List.range' (y * 16 + x) n).countP g
theorem cntRow_succ (g : Nat → Bool) (y x n : Nat) : cntRow g y x (n + 1) = (if g (y * 16 + x) = true then 1 else 0) + cntRow g y (x + 1) n := by
  unfold cntRow
  rw [List.range'_succ, List.countP_cons, Nat.add_comm, Nat.add_assoc]
theorem cnt_seg (g : Nat → Bool) (y : Nat) : ∀ k x e, x + k = e → e ≤ 16 → (∀ q, x ≤ q → q < e → g (y * 16 + q) = true) → cntRow g y x (16 - x) = k + cntRow g y e (16 - e) := by
  intro k
  induction k with
  | zero => intro x e h1 h2 _; rw [show e = x by omega]; omega
  | succ k ih =>
    intro x e h1 h2 h
    rw [show 16 - x = (16 - (x + 1)) + 1 by omega, cntRow_succ, if_pos (h x (by omega) (by omega)), ih (x + 1) e (by omega) h2 (fun q hq1 hq2 => h q (by omega) hq2)]
    omega
theorem area_scan (g : Nat → Bool) (y : Nat) : ∀ d x, 17 ≤ x + d → areaR (scanRow g y x) = ((cntRow g y x (16 - x) : Nat) : Int) := by
  intro d
  induction d with
  | zero => intro x hx; rw [scan_end g y x (by omega), show 16 - x = 0 by omega]; rfl
  | succ d ih =>
    intro x hx
    by_cases h16 : x < 16
    · cases hv : g (y * 16 + x) with
      | true =>
        have he2 := endAt_le g y (16 - x) x (by omega)
        have hin := endAt_in g y (16 - x) x
        have hend := endAt_end g y (16 - x) x (by omega) (by omega)
        have hst := endAt_step g y x h16 hv
        have he3 := endAt_ge g y (16 - (x + 1)) (x + 1)
        rw [← hst] at he3
        rw [scan_true g y x h16 hv, areaR_cons]
        generalize endAt g y (16 - x) x = e at *
        rw [ih (e + 1) (by omega), cnt_seg g y (e - x) x e (by omega) he2 hin]
        have hz : cntRow g y e (16 - e) = cntRow g y (e + 1) (16 - (e + 1)) := by
          by_cases c : e = 16
          · subst c; rfl
          · rcases hend with h | h
            · omega
            · rw [show 16 - e = (16 - (e + 1)) + 1 by omega, cntRow_succ, if_neg (by rw [h]; simp)]
              omega
        rw [hz]
        simp only
        omega
      | false =>
        rw [scan_false g y x h16 hv, ih _ (by omega), show 16 - x = (16 - (x + 1)) + 1 by omega, cntRow_succ, if_neg (by rw [hv]; simp)]
        omega
    · rw [scan_end g y x (by omega), show 16 - x = 0 by omega]; rfl
theorem area_runsTo (g : Nat → Bool) (n : Nat) : areaR (runsTo g n) = (((List.range (n * 16)).countP g : Nat) : Int) := by
  induction n with
  | zero => simp [runsTo, areaR]
  | succ n ih =>
    rw [runsTo_succ, areaR_append, ih, area_scan g n 17 0 (by omega)]
    have e : List.range ((n + 1) * 16) = List.range (n * 16) ++ List.range' (n * 16) 16 := by
      rw [Nat.succ_mul, List.range_eq_range', List.range_eq_range', ← List.range'_append_1]; simp
    rw [e, List.countP_append]
    unfold cntRow
    simp only [Nat.add_zero, Nat.sub_zero]
    omega
/-- The area of a grid's runs is the number of its pixels. -/
theorem area_runs (g : Nat → Bool) : areaR (runsL g) = (countG g : Int) := area_runsTo g 16
theorem countG_congr {g g' : Nat → Bool} (h : ∀ p, p < 256 → g p = g' p) : countG g = countG g' := by
  unfold countG
  exact List.countP_congr (fun p hp => by rw [h p (by simpa using hp)])
theorem countG_sub (g h : Nat → Bool) (hs : ∀ p, p < 256 → h p = true → g p = true) : countG (fun p => g p && !(h p)) + countG h = countG g := by
  unfold countG
  have key : ∀ l : List Nat, (∀ p ∈ l, h p = true → g p = true) → l.countP (fun p => g p && !(h p)) + l.countP h = l.countP g := by
    intro l
    induction l with
    | nil => intro _; rfl
    | cons a l ih =>
      intro hl
      have h1 := ih (fun p hp => hl p (by simp [hp]))
      have h2 := hl a (by simp)
      rw [List.countP_cons, List.countP_cons, List.countP_cons]
      cases hg : g a <;> cases hh : h a <;> simp_all <;> omega
  exact key _ (fun p hp => hs p (by simpa using hp))
theorem countG_none (g : Nat → Bool) (h : ∀ p, p < 256 → g p = false) : countG g = 0 := by
  unfold countG
  rw [List.countP_eq_zero]
  intro p hp
  rw [h p (by simpa using hp)]; simp
end Go.Proofs.Ytfgeickfheogoaa.Pure

/- The reference's operations on grids: edges, growing, shrinking, shifting, combining. -/
namespace Go.Proofs.Ytfgeickfheogoaa.Pure
open Go.RowKit Go.Proofs.Ytfgeickfheogoaa.Q Go.Proofs.YtfgeickfheogoaaW.PrintWords Go.Proofs.YtfgeickfheogoaaW.PrintLast Go.Proofs.YtfgeickfheogoaaW.PrintMore
set_option linter.unusedVariables false
set_option linter.unusedSimpArgs false

theorem rdT_congr {g g' : Nat → Bool} (h : ∀ p, p < 256 → g p = g' p) : rdT g = rdT g' := by
  funext i; unfold rdT; rw [tab_congr h]
theorem edge_congr {g g' : Nat → Bool} (h : ∀ p, p < 256 → g p = g' p) (p : Nat) (hp : p < 256) : gso (edgeP g) 256 p = gso (edgeP g') 256 p := by
  rw [← edge_is g p hp, ← edge_is g' p hp, h p hp]
  unfold innerT
  rw [rdT_congr h]
/-! each operation's value -/
def edgeV (l : List Run) : List Run := if validR l = true then runsL (gso (edgeP (gridF l)) 256) else []
theorem impl_EdgeOf_eq (l : List Run) : impl_EdgeOf.f l = some (edgeV l) := rfl
theorem runs_len (g : Nat → Bool) (c : Bool) : (if c = true then runsL g else []).length ≤ 272 := by
  cases c
  · simp
  · rw [if_pos rfl]; exact runsL_len g
theorem edgeV_len (l : List Run) : (edgeV l).length ≤ 272 := runs_len _ _
end Go.Proofs.Ytfgeickfheogoaa.Pure

/- Edges of boxes are frames: the law FnEdgeOfBox over lists of numbers alone. -/
namespace Go.Proofs.Ytfgeickfheogoaa.Pure
open Go.RowKit Go.Proofs.Ytfgeickfheogoaa.Q Go.Proofs.YtfgeickfheogoaaW.PrintWords Go.Proofs.YtfgeickfheogoaaW.PrintLast Go.Proofs.YtfgeickfheogoaaW.PrintMore
set_option linter.unusedVariables false
set_option linter.unusedSimpArgs false

theorem count_box (b0 b1 b2 b3 : Int) (h : boxOk b0 b1 b2 b3 = true) : (countG (gso (inBox b0 b1 b2 b3) 256) : Int) = b2 * b3 := by
  have h' := (boxOk_iff b0 b1 b2 b3).1 h
  rw [← area_runs, runs_box b0 b1 b2 b3 h, box_area]
  congr 1
  omega
theorem grid_box (b0 b1 b2 b3 : Int) (h : boxOk b0 b1 b2 b3 = true) (p : Nat) (hp : p < 256) : gridF (boxRuns b0 b1 b2 b3 b3.toNat) p = gso (inBox b0 b1 b2 b3) 256 p := by
  rw [← runs_box b0 b1 b2 b3 h, grid_runs _ p hp]
theorem inBox_iff (b0 b1 b2 b3 : Int) (x y : Nat) : inBox b0 b1 b2 b3 x y = true ↔ b0 ≤ (x : Int) ∧ (x : Int) < b0 + b2 ∧ b1 ≤ (y : Int) ∧ (y : Int) < b1 + b3 := by
  simp [inBox, and_assoc]
theorem has_box (b0 b1 b2 b3 : Int) (h : boxOk b0 b1 b2 b3 = true) (x y : Int) : hasP (gso (inBox b0 b1 b2 b3) 256) x y = true ↔ b0 ≤ x ∧ x < b0 + b2 ∧ b1 ≤ y ∧ y < b1 + b3 := by
  have h' := (boxOk_iff b0 b1 b2 b3).1 h
  rw [hasP_iff]
  constructor
  · intro ⟨q1, q2, q3, q4, q5⟩
    rw [gso_at _ _ (by omega), inBox_iff] at q5
    omega
  · intro q
    refine ⟨by omega, by omega, by omega, by omega, ?_⟩
    rw [gso_at _ _ (by omega), inBox_iff]
    omega
theorem edge_box (b0 b1 b2 b3 : Int) (h : boxOk b0 b1 b2 b3 = true) (p : Nat) (hp : p < 256) :
    gso (edgeP (gso (inBox b0 b1 b2 b3) 256)) 256 p = (gso (inBox b0 b1 b2 b3) 256 p && !(gso (inBox (b0 + 1) (b1 + 1) (b2 - 2) (b3 - 2)) 256 p)) := by
  rw [gso_at _ p hp, gso_at (inBox (b0 + 1) (b1 + 1) (b2 - 2) (b3 - 2)) p hp]
  unfold edgeP
  rw [show p / 16 * 16 + p % 16 = p by omega]
  by_cases c : gso (inBox b0 b1 b2 b3) 256 p = true
  · rw [c, Bool.true_and, Bool.true_and]
    congr 1
    rw [Bool.eq_iff_iff, inBox_iff]
    unfold nbAll
    rw [Bool.and_eq_true, Bool.and_eq_true, Bool.and_eq_true, has_box _ _ _ _ h, has_box _ _ _ _ h, has_box _ _ _ _ h, has_box _ _ _ _ h]
    rw [gso_at _ p hp, inBox_iff] at c
    constructor
    · intro q; omega
    · intro q
      refine ⟨⟨⟨?_, ?_⟩, ?_⟩, ?_⟩ <;> omega
  · rw [show gso (inBox b0 b1 b2 b3) 256 p = false by simpa using c, Bool.false_and, Bool.false_and]
theorem area_frame (b0 b1 b2 b3 : Int) (h : boxOk b0 b1 b2 b3 = true) :
    areaR (edgeV (boxRuns b0 b1 b2 b3 b3.toNat)) = b2 * b3 - max 0 (b2 - 2) * max 0 (b3 - 2) := by
  have h' := (boxOk_iff b0 b1 b2 b3).1 h
  unfold edgeV
  rw [if_pos (box_valid b0 b1 b2 b3 h), area_runs]
  have e1 : countG (gso (edgeP (gridF (boxRuns b0 b1 b2 b3 b3.toNat))) 256) = countG (fun p => gso (inBox b0 b1 b2 b3) 256 p && !(gso (inBox (b0 + 1) (b1 + 1) (b2 - 2) (b3 - 2)) 256 p)) :=
    countG_congr (fun p hp => by rw [edge_congr (grid_box b0 b1 b2 b3 h) p hp, edge_box b0 b1 b2 b3 h p hp])
  have e2 := countG_sub (gso (inBox b0 b1 b2 b3) 256) (gso (inBox (b0 + 1) (b1 + 1) (b2 - 2) (b3 - 2)) 256) (fun p hp q => by
    rw [gso_at _ p hp, inBox_iff] at q ⊢; omega)
  have e3 := count_box b0 b1 b2 b3 h
  rw [e1]
  by_cases c : 3 ≤ b2 ∧ 3 ≤ b3
  · have e4 := count_box (b0 + 1) (b1 + 1) (b2 - 2) (b3 - 2) ((boxOk_iff _ _ _ _).2 (by omega))
    rw [show max 0 (b2 - 2) = b2 - 2 by omega, show max 0 (b3 - 2) = b3 - 2 by omega]
    omega
  · have e4 : countG (gso (inBox (b0 + 1) (b1 + 1) (b2 - 2) (b3 - 2)) 256) = 0 := countG_none _ (fun p hp => by
      rw [gso_at _ p hp, ← Bool.not_eq_true, inBox_iff]; omega)
    have e5 : max 0 (b2 - 2) * max 0 (b3 - 2) = 0 := by
      by_cases c2 : b2 ≤ 2
      · rw [show max 0 (b2 - 2) = 0 by omega, Int.zero_mul]
      · rw [show max 0 (b3 - 2) = 0 by omega, Int.mul_zero]
    rw [e5]
    omega
theorem FnEdgeOfBox : laws_FnEdgeOfBox.Pure := by
  intro code _ _ hw
  apply Ev.rounds
  unfold laws_FnEdgeOfBox.f
  by_cases c : (code.length : Int) > 1048576
  · exact ev_pos c (Ev.now true)
  refine ev_neg c ?_
  obtain ⟨b0, b1, b2, b3, hd⟩ := drawBox code hw
  have hI := impl_BoxRegion_eq b0 b1 b2 b3
  have hS := spec_BoxRegion_ev b0 b1 b2 b3
  have hlen := boxV_len b0 b1 b2 b3
  have heq := equalRuns_refl (boxV b0 b1 b2 b3).1 (by omega)
  refine ev_bind hd (ev_now hI (ev_bind hS (ev_bind heq (ev_pos rfl (ev_neg (by simp) ?_)))))
  refine Ev.step (fun k => by simp only [laws_FnEdgeOfBox.j0]; rfl) ?_
  by_cases h : boxOk b0 b1 b2 b3 = true
  · have h' := (boxOk_iff b0 b1 b2 b3).1 h
    have e : boxV b0 b1 b2 b3 = (boxRuns b0 b1 b2 b3 b3.toNat, true) := by unfold boxV; rw [if_pos h]
    rw [e]
    refine ev_neg (by simp) ?_
    have hv : validR (edgeV (boxRuns b0 b1 b2 b3 b3.toNat)) = true := by
      unfold edgeV; rw [if_pos (box_valid b0 b1 b2 b3 h)]; exact runs_valid _
    have hel := edgeV_len (boxRuns b0 b1 b2 b3 b3.toNat)
    refine ev_now (impl_EdgeOf_eq _) (ev_bind (ev_of (2 * (edgeV (boxRuns b0 b1 b2 b3 b3.toNat)).length + 1) (fun k hk => (impl_AreaOf_eq (edgeV (boxRuns b0 b1 b2 b3 b3.toNat)) (by omega) k (by omega)).trans (by rw [if_pos hv]))) (ev_const ?_))
    rw [area_frame b0 b1 b2 b3 h]
    have m1 : 0 ≤ b2 * b3 := Int.mul_nonneg (by omega) (by omega)
    have m2 : b2 * b3 ≤ 16 * 16 := Int.mul_le_mul (by omega) (by omega) (by omega) (by omega)
    have m3 : 0 ≤ max 0 (b2 - 2) * max 0 (b3 - 2) := Int.mul_nonneg (by omega) (by omega)
    have m4 : max 0 (b2 - 2) * max 0 (b3 - 2) ≤ 16 * 16 := Int.mul_le_mul (by omega) (by omega) (by omega) (by omega)
    simp only [mx_def]
    rw [w64 (x := b2 - 2) (by omega) (by omega), w64 (x := b3 - 2) (by omega) (by omega), w64 (x := b2 * b3) (by omega) (by omega), w64 (x := max 0 (b2 - 2) * max 0 (b3 - 2)) (by omega) (by omega), w64 (by omega) (by omega)]
    simp
  · have e : boxV b0 b1 b2 b3 = ([], false) := by unfold boxV; rw [if_neg h]
    rw [e] at heq ⊢
    exact ev_pos rfl (ev_bind heq (ev_pos rfl (ev_const (by simp))))
end Go.Proofs.Ytfgeickfheogoaa.Pure

/- The head of the translation reads as a plain cut. -/
namespace Go.Proofs.Ytfgeickfheogoaa.Head
set_option maxRecDepth 100000
theorem wordsSigns_word (w r : List Char) (h : w.all (fun c => !(c == Char.ofNat 32)) = true) : wordsSigns (w ++ Char.ofNat 32 :: r) = w :: wordsSigns r := by
  induction w with
  | nil => rfl
  | cons c w ih =>
    simp only [List.all_cons, Bool.and_eq_true, Bool.not_eq_true', beq_eq_false_iff_ne, ne_eq] at h
    have h1 := ih (by simpa using h.2)
    rw [List.cons_append, wordsSigns.eq_3 c _ h.1, h1]
def w1 : List Char := [104, 97, 114, 110, 101, 115, 115].map Char.ofNat
def w2 : List Char := [50, 56, 98, 98, 49, 50, 55, 52, 52, 51, 57, 52, 49, 48, 50, 99, 49, 101, 51, 56, 48, 55, 99, 55, 56, 54, 102, 55, 101, 99, 97, 50, 50, 51, 102, 48, 102, 55, 97, 102, 49, 102, 53, 49, 52, 56, 48, 100, 55, 53, 101, 102, 97, 100, 57, 50, 50, 50, 53, 55, 53, 102, 97, 55].map Char.ofNat
def w3 : List Char := [99, 117, 116].map Char.ofNat
def w4 : List Char := [97, 116, 32, 108, 111, 111, 112, 46, 101, 120, 97, 109, 112, 108, 101, 47, 112, 105, 120, 101, 108, 119, 111, 114, 107, 115, 47, 108, 97, 119, 115, 46, 70, 110, 69, 120, 97, 99, 116, 86, 97, 108, 105, 100, 82, 101, 103, 105, 111, 110, 32, 108, 111, 111, 112, 46, 101, 120, 97, 109, 112, 108, 101, 47, 112, 105, 120, 101, 108, 119, 111, 114, 107, 115, 47, 108, 97, 119, 115, 46, 70, 110, 69, 120, 97, 99, 116, 65, 114, 101, 97, 79, 102, 32, 108, 111, 111, 112, 46, 101, 120, 97, 109, 112, 108, 101, 47, 112, 105, 120, 101, 108, 119, 111, 114, 107, 115, 47, 108, 97, 119, 115, 46, 70, 110, 69, 120, 97, 99, 116, 82, 101, 103, 105, 111, 110, 72, 97, 115, 32, 108, 111, 111, 112, 46, 101, 120, 97, 109, 112, 108, 101, 47, 112, 105, 120, 101, 108, 119, 111, 114, 107, 115, 47, 108, 97, 119, 115, 46, 70, 110, 69, 120, 97, 99, 116, 66, 111, 120, 82, 101, 103, 105, 111, 110, 32, 108, 111, 111, 112, 46, 101, 120, 97, 109, 112, 108, 101, 47, 112, 105, 120, 101, 108, 119, 111, 114, 107, 115, 47, 108, 97, 119, 115, 46, 70, 110, 69, 120, 97, 99, 116, 66, 111, 117, 110, 100, 115, 79, 102, 32, 108, 111, 111, 112, 46, 101, 120, 97, 109, 112, 108, 101, 47, 112, 105, 120, 101, 108, 119, 111, 114, 107, 115, 47, 108, 97, 119, 115, 46, 70, 110, 66, 111, 120, 82, 101, 103, 105, 111, 110, 32, 108, 111, 111, 112, 46, 101, 120, 97, 109, 112, 108, 101, 47, 112, 105, 120, 101, 108, 119, 111, 114, 107, 115, 47, 108, 97, 119, 115, 46, 70, 110, 69, 100, 103, 101, 79, 102, 66, 111, 120, 32, 108, 111, 111, 112, 46, 101, 120, 97, 109, 112, 108, 101, 47, 112, 105, 120, 101, 108, 119, 111, 114, 107, 115, 47, 108, 97, 119, 115, 46, 70, 110, 69, 120, 97, 99, 116, 83, 104, 105, 102, 116, 82, 101, 103, 105, 111, 110, 32, 108, 111, 111, 112, 46, 101, 120, 97, 109, 112, 108, 101, 47, 112, 105, 120, 101, 108, 119, 111, 114, 107, 115, 47, 108, 97, 119, 115, 46, 70, 110, 69, 120, 97, 99, 116, 69, 100, 103, 101, 79, 102, 32, 108, 111, 111, 112, 46, 101, 120, 97, 109, 112, 108, 101, 47, 112, 105, 120, 101, 108, 119, 111, 114, 107, 115, 47, 108, 97, 119, 115, 46, 70, 110, 69, 120, 97, 99, 116, 67, 111, 109, 98, 105, 110, 101, 82, 101, 103, 105, 111, 110, 115, 32, 108, 111, 111, 112, 46, 101, 120, 97, 109, 112, 108, 101, 47, 112, 105, 120, 101, 108, 119, 111, 114, 107, 115, 47, 108, 97, 119, 115, 46, 70, 110, 69, 120, 97, 99, 116, 71, 114, 111, 119, 82, 101, 103, 105, 111, 110, 32, 108, 111, 111, 112, 46, 101, 120, 97, 109, 112, 108, 101, 47, 112, 105, 120, 101, 108, 119, 111, 114, 107, 115, 47, 108, 97, 119, 115, 46, 70, 110, 69, 120, 97, 99, 116, 83, 104, 114, 105, 110, 107, 82, 101, 103, 105, 111, 110, 32, 108, 111, 111, 112, 46, 101, 120, 97, 109, 112, 108, 101, 47, 112, 105, 120, 101, 108, 119, 111, 114, 107, 115, 47, 108, 97, 119, 115, 46, 70, 110, 69, 120, 97, 99, 116, 79, 112, 101, 110, 82, 101, 103, 105, 111, 110, 32, 108, 111, 111, 112, 46, 101, 120, 97, 109, 112, 108, 101, 47, 112, 105, 120, 101, 108, 119, 111, 114, 107, 115, 47, 108, 97, 119, 115, 46, 70, 110, 69, 120, 97, 99, 116, 80, 97, 114, 116, 115, 79, 102].map Char.ofNat
theorem signs0 : Try.prog.initOrder = String.ofList (w1 ++ Char.ofNat 32 :: (w2 ++ Char.ofNat 32 :: (w3 ++ Char.ofNat 32 :: w4))) := by kernel_rfl
theorem behind : behindMainWord (wordsSigns Try.prog.initOrder.toList) = w3 :: wordsSigns w4 := by
  rw [signs0, String.toList_ofList, wordsSigns_word w1 _ (by kernel_rfl), wordsSigns_word w2 _ (by kernel_rfl), wordsSigns_word w3 _ (by kernel_rfl)]
  unfold behindMainWord
  dsimp only
  rw [if_pos (by kernel_rfl)]
theorem strip_cut (R : List (List Char)) : stripLifts liftWords (w3 :: R) = ([], w3 :: R) := by kernel_rfl
theorem mayEnter_of (P : Program) (R : List (List Char)) (h : behindMainWord (wordsSigns P.initOrder.toList) = w3 :: R) (h1 : P.laysLater = false) (h2 : P.bearsReflect = false) (h3 : P.doorFits [] = true) : P.mayEnter = true := by
  unfold Program.mayEnter
  rw [h]
  dsimp only
  rw [strip_cut, h1, h2, h3]
  kernel_rfl
theorem liftsFinal_of (P : Program) (R : List (List Char)) (h : behindMainWord (wordsSigns P.initOrder.toList) = w3 :: R) : P.liftsFinal = false := by
  unfold Program.liftsFinal Program.headLifts
  rw [h]
  dsimp only
  rw [strip_cut]
  kernel_rfl
theorem make_of (P : Program) (R : List (List Char)) (h : behindMainWord (wordsSigns P.initOrder.toList) = w3 :: R) : P.make = some .cut := by
  unfold Program.make
  rw [h]
  kernel_rfl
theorem mayEnter : Try.prog.mayEnter = true := mayEnter_of _ _ behind (by kernel_rfl) (by kernel_rfl) (by kernel_rfl)
theorem liftsFinal : Try.prog.liftsFinal = false := liftsFinal_of _ _ behind
theorem make : Try.prog.make = some .cut := make_of _ _ behind
end Go.Proofs.Ytfgeickfheogoaa.Head

-- PRINTED by print.py: the row of the law laws_FnEdgeOfBox, out of its Pure (the session's) and the printed walk. Not trusted: Lean checks it.
namespace Go.Proofs.Ytfgeickfheogoaa.fnEdgeOfBox
open Go.ChangeShapes Go.WideShapes Go.ChangeAt Go.RowKit
open Go.ChangeMaps (open_string shut_string)
set_option linter.unusedVariables false
theorem own : ownKnob Try.prog.godebug = none := by kernel_rfl
theorem laidOut : laidOutB Try.prog = true := by kernel_rfl
def IsRow (k : IntKind) (w : World) (a : Option Addr) (len cap : Nat) (zs : List Int) : Prop :=
  (a = none ∧ len = 0 ∧ cap = 0 ∧ zs = []) ∨
  ∃ x, a = some x ∧ len ≤ cap ∧ cap ≤ maxLen ∧ zs.length = cap ∧ (∀ i, i < zs.length → w.cell? (x.add i) = some (.int k (zs.getD i 0))) ∧ ∀ n ∈ zs, (Lit.int k n).wf = true
set_option maxRecDepth 100000 in
theorem lifted (os : Os) (started : os.Started) (H : Type) (enc : TypeId × Value → H) :
    ReturnsInHanded {} Try.checked os 9 .any (Rows.fnEdgeOfBoxSpec.pre6 enc Try.prog Try.f9 Rows.fnEdgeOfBoxRow.domain false) (Rows.fnEdgeOfBoxSpec.post enc Try.prog Try.f9 false true false false) := by
  refine returnsInHanded_of_change_sized (C := Try.checked) own started (by kernel_rfl) Try.func9
    (ChangeSpec.witness6 (enc := enc) (C := Try.checked) false ⟨#[], #[.slice none 0 0], []⟩ 8 (by kernel_rfl) (by kernel_rfl) (by kernel_rfl) (by kernel_rfl)) ?_
  intro W base args ds gs before hval0 hW hcnd hsz0 _
  have hsz : (DataW.weightsEach Try.prog (Try.f9.params.toList ++ Rows.fnEdgeOfBoxSpec.plain.varTypes Try.prog) (ds ++ gs)).all (· ≤ reachBytes) = true := hsz0
  have hval : ∀ (j : Nat) t v, Try.f9.params[j]? = some t → args[j]? = some v → Value.okWide Try.prog W .any base t v := hval0
  have hW' := hW
  obtain ⟨p, q, hA0, hV, rfl, hfz, hnd⟩ := hW
  have hA : DataW.TrodAll enc Try.prog W 0 (fun _ => true) true Try.f9.params.toList args.toList ds p := hA0
  rw [Try.params9] at hA hval hsz
  obtain ⟨v0, vs0, d0, ds0, p0, q0, hargs, rfl, rfl, h0, r0⟩ := trodAll_cons hA
  obtain ⟨rfl, rfl, rfl⟩ := trodAll_nil r0
  obtain rfl : args = #[v0] := by cases args; simp_all
  obtain ⟨rfl, rfl⟩ := trodVars_none hV
  obtain ⟨a0, len0, cap0, rfl⟩ := okWide_slice Try.underlying43 (hval 0 43 v0 rfl rfl)
  have k0 := h0
  have lt0 : ∀ x ∈ p0, x.block < W.heap.size := by obtain ⟨m, hm⟩ := k0; exact DataW.trod_lt m _ _ _ hm
  obtain ⟨z0, w0⟩ : ∃ zs, IsRow .u8 W a0 len0 cap0 zs := by
    obtain ⟨fuel, hf⟩ := h0
    rcases open_ints Try.underlying43 Try.underlying5 (by kernel_rfl) hf with ⟨hcs, _⟩ | ⟨x, l, c, zs, hcs, _, hl, hm, hz, _, hcell, hwz⟩
    · simp [Value.cells] at hcs
      obtain ⟨rfl, rfl, rfl⟩ := hcs
      exact ⟨[], .inl ⟨rfl, rfl, rfl, rfl⟩⟩
    · simp [Value.cells] at hcs
      obtain ⟨rfl, rfl, rfl⟩ := hcs
      exact ⟨zs, .inr ⟨_, rfl, hl, hm, by simpa using hz, hcell, hwz⟩⟩
  have y0 : len0 * 1 ≤ 140737488351232 := Go.Proofs.YtfgeickfheogoaaW.PrintWords.sized_ints hsz (j := 0) (t := 43) rfl rfl Try.underlying43 Try.underlying5 (by kernel_rfl) (by kernel_rfl) h0
  clear hA0 hval0 hsz0 hsz
  refine (Q.laws_FnEdgeOfBox.walk Pure.FnEdgeOfBox a0 len0 cap0 z0 W w0 y0).mono fun e W' ⟨he, bel⟩ => ?_
  subst he
  exact ⟨_, rfl, _, _, _, [], _, [], hW', trodAll_mk1 (shut_bool Try.underlying4 _), (trodAll_cons_mk (Below.trod laidOut (by kernel_rfl) (of_decide_eq_true (by kernel_rfl)) k0 bel lt0) trodAll_mk0), rfl, bel.frame _, fun h => by cases h⟩
theorem closed : joinedFacts Try.prog 9 Try.f9 Rows.fnEdgeOfBoxSpec Rows.fnEdgeOfBoxRow = true := by
  unfold joinedFacts
  rw [Head.mayEnter, Head.liftsFinal, Head.make]
  simp only [Bool.and_eq_true]
  repeat' apply And.intro
  all_goals first | exact True.intro | (as_aux_lemma => kernel_rfl)
theorem over : Rows.fnEdgeOfBoxRow.holds Try.pinned (OpenSpec.ofChange Rows.fnEdgeOfBoxSpec) :=
  OpenClaim.holds_of_wide 9 Try.f9 rfl rfl rfl rfl rfl rfl rfl ⟨rfl, rfl, rfl, rfl, rfl⟩ rfl rfl rfl rfl rfl (by kernel_rfl) Try.func9 closed
    (of_decide_eq_true (by kernel_rfl)) (by unfold Func.isWrapper; first | (rw [if_pos (by decide +kernel)]; kernel_rfl) | (rw [if_neg (by decide +kernel)]; exact ⟨rfl, rfl⟩))
    (fun os started H enc _ => lifted os started H enc)
theorem proved : Rows.FnEdgeOfBoxSaid := over
#print axioms proved
end Go.Proofs.Ytfgeickfheogoaa.fnEdgeOfBox
namespace Go.Proofs.Ytfgeickfheogoaa
/-- The row, under a short name, for the claim. -/
theorem fnEdgeOfBox_holds : Rows.FnEdgeOfBoxSaid := fnEdgeOfBox.proved
end Go.Proofs.Ytfgeickfheogoaa
