/- A part of the proof that the statement FnExactDoStepSaid holds, under no condition of its own: The program's DoStep and the reference's return the same, and what is returned is held by nobody else: over lists of numbers alone. -/
import Derived.Test.YtgccpcnakkioiaaCFnExactDoStep3
import Derived.Test.YtgccpcnakkioiaaCFnExactDoStep1
import Derived.OrdersHeld
import Derived.Deep.RegionHeld
import Derived.RegionTactic
/- impl.MirrorImage: the columns in reverse order. -/
namespace Go.Proofs.Ytgccpcnakkioiaa.Q
open Go.RowKit Go.Proofs.YtgccpcnakkioiaaW.PrintWords Go.Proofs.YtgccpcnakkioiaaW.PrintLast Go.Proofs.YtgccpcnakkioiaaW.PrintMore
attribute [local go_sem] max2_int min2_int max_two min_two max_three min_three max_four min_four
set_option linter.unusedVariables false
set_option linter.unusedSimpArgs false
open Go.Proofs.Ytgccpcnakkioiaa.Pure

def mirPx (a p : Int) (d : List Int) (x y : Nat) : List Int := pxAt a p d (a - 1 - (x : Int)).toNat y
def impl_MirrorImage.f (a b p : Int) (d : List Int) : Option (Int × Int × Int × List Int) := some (if validI a b p d = true then (a, b, p, imgD (mirPx a p d) a.toNat b.toNat) else (0, 0, 0, []))
set_option maxHeartbeats 4000000 in
set_option maxRecDepth 100000 in
theorem mirror_no (a b p : Int) (A : Option Addr) (c : Nat) (d : List Int) (w : World) (hr0_3 : Kd.C (Kd.int .i64) w A d.length d) (hc0_3 : d.length ≤ c) (hv1 : validI a b p d = false) :
    Calls Try.prog 25 #[.agg #[.int .i64 a, .int .i64 b, .int .i64 p, .slice A d.length c]] w fun e w' => ∃ v3_ : Value, e = .returned (.agg #[.int .i64 0, .int .i64 0, .int .i64 0, v3_]) ∧ Kd.R (Kd.int .i64) 3 w' w.heap.size (fun _ => True) v3_ [] ∧ Below w.heap.size w w' := by
  have HC := Aside0.mk hc0_3
  have HR := Aside0.mk hr0_3
  have HB0 := Aside0.mk (Below.refl w.heap.size w)
  have E1 := Aside0.mk (impl_isImage_eq a b p d)
  have HV := Aside0.mk hv1
  have hu := Try.underlying28
  clear hr0_3 hc0_3
  rw [hv1] at E1
  go_enter Try.func25, Try.ntmps25
  go_wp2_with (first
    | ((with_reducible refine gate_dst (N := 1) rfl ?_); refine box_event ?hg (N := 1) ?hd (cs := #[.int .i64 a, .int .i64 b, .int .i64 p, .slice A d.length c]) (t := 28) ?hr ?_; (case hd => rfl); (case hg => rfl); (case hr => first | (go_simp; done) | (go_simp; rfl)); intro g1 hg_ w1 hbox hb; have HB1 := Aside0.mk (below_then HB0.out HB0.out.size hb); have Kb0 := Aside0.mk hbox; have Gg1 := Aside0.mk (show w.heap.size ≤ g1 from by rw [hg_]; exact HB0.out.size); have Kg1_1 := Aside0.mk hbox; clear hbox hb hg_)
    | ((with_reducible refine gate_dst (N := 2) rfl ?_); refine box_event ?hg (N := 2) ?hd (cs := #[.int .i64 0, .int .i64 0, .int .i64 0, .slice none 0 0]) (t := 28) ?hr ?_; (case hd => rfl); (case hg => rfl); (case hr => first | (go_simp; done) | (go_simp; rfl)); intro g2 hg_ w2 hbox hb; have HB2 := Aside0.mk (below_then HB1.out HB1.out.size hb); have Kb1 := Aside0.mk hbox; have Gg2 := Aside0.mk (show w.heap.size ≤ g2 from by rw [hg_]; exact HB1.out.size); have Kg1_2 := Aside0.mk (blk_below Kg1_1.out hb); have Kg2_2 := Aside0.mk hbox; have fg1_0 : w2.cell? ⟨g1, 0, none⟩ = some (.int .i64 a) := (blk_cell Kg1_2.out 0).trans rfl; have fg1_1 : w2.cell? ⟨g1, 1, none⟩ = some (.int .i64 b) := (blk_cell Kg1_2.out 1).trans rfl; have fg1_2 : w2.cell? ⟨g1, 2, none⟩ = some (.int .i64 p) := (blk_cell Kg1_2.out 2).trans rfl; have fg1_3 : w2.cell? ⟨g1, 3, none⟩ = some (.slice A d.length c) := (blk_cell Kg1_2.out 3).trans rfl; have fg2_0 : w2.cell? ⟨g2, 0, none⟩ = some (.int .i64 0) := (blk_cell Kg2_2.out 0).trans rfl; have fg2_1 : w2.cell? ⟨g2, 1, none⟩ = some (.int .i64 0) := (blk_cell Kg2_2.out 1).trans rfl; have fg2_2 : w2.cell? ⟨g2, 2, none⟩ = some (.int .i64 0) := (blk_cell Kg2_2.out 2).trans rfl; have fg2_3 : w2.cell? ⟨g2, 3, none⟩ = some (.slice none 0 0) := (blk_cell Kg2_2.out 3).trans rfl; clear hbox hb hg_)
    | (go_at_call 43; (with_reducible refine (impl_isImage.calls a b p A c d _ w2 (Kd.C_below HR.out HB2.out) HC.out E1.out).mono ?_); rintro e w3 ⟨rfl, hb_⟩; have HB3 := Aside0.mk (below_then HB2.out HB2.out.size hb_); have Kg1_3 := Aside0.mk (blk_below Kg1_2.out hb_); have eg1_3_0 : w3.cell? ⟨g1, 0, none⟩ = some (.int .i64 a) := (blk_cell Kg1_3.out 0).trans rfl; have eg1_3_1 : w3.cell? ⟨g1, 1, none⟩ = some (.int .i64 b) := (blk_cell Kg1_3.out 1).trans rfl; have eg1_3_2 : w3.cell? ⟨g1, 2, none⟩ = some (.int .i64 p) := (blk_cell Kg1_3.out 2).trans rfl; have eg1_3_3 : w3.cell? ⟨g1, 3, none⟩ = some (.slice A d.length c) := (blk_cell Kg1_3.out 3).trans rfl; have Kg2_3 := Aside0.mk (blk_below Kg2_2.out hb_); have eg2_3_0 : w3.cell? ⟨g2, 0, none⟩ = some (.int .i64 0) := (blk_cell Kg2_3.out 0).trans rfl; have eg2_3_1 : w3.cell? ⟨g2, 1, none⟩ = some (.int .i64 0) := (blk_cell Kg2_3.out 1).trans rfl; have eg2_3_2 : w3.cell? ⟨g2, 2, none⟩ = some (.int .i64 0) := (blk_cell Kg2_3.out 2).trans rfl; have eg2_3_3 : w3.cell? ⟨g2, 3, none⟩ = some (.slice none 0 0) := (blk_cell Kg2_3.out 3).trans rfl; have yg2_3_0 := blk_frozen Kg2_3.out 0; have yg2_3_1 := blk_frozen Kg2_3.out 1; have yg2_3_2 := blk_frozen Kg2_3.out 2; have yg2_3_3 := blk_frozen Kg2_3.out 3; clear hb_))
  refine bodyPost_ret (results_cell_row rfl _ _ g2 28 #[.int .i64 0, .int .i64 0, .int .i64 0, .slice none 0 0] (0, 0) _ rfl (by
    refine blk_put (cs := #[.int .i64 0, .int .i64 0, .int .i64 0, .slice none 0 0]) ?_ 3 _ rfl
    refine blk_put (cs := #[.int .i64 0, .int .i64 0, .int .i64 0, .slice none 0 0]) ?_ 2 _ rfl
    refine blk_put (cs := #[.int .i64 0, .int .i64 0, .int .i64 0, .slice none 0 0]) ?_ 1 _ rfl
    refine blk_put (cs := #[.int .i64 0, .int .i64 0, .int .i64 0, .slice none 0 0]) ?_ 0 _ rfl
    exact Kg2_3.out
    ) hu rfl (by kernel_rfl)) rfl ?_
  have G2 := Gg2.out
  exact ⟨_, rfl, Kd.R_nil _ _ _ _ _, below_set (below_set (below_set (below_set HB3.out (by omega)) (by omega)) (by omega)) (by omega)⟩
set_option maxHeartbeats 4000000 in
set_option maxRecDepth 100000 in
theorem mirror_yes (a b : Nat) (p : Int) (A : Option Addr) (c : Nat) (d : List Int) (w : World) (hr0_3 : Kd.C (Kd.int .i64) w A d.length d) (hc0_3 : d.length ≤ c) (hv1 : validI a b p d = true) :
    Calls Try.prog 25 #[.agg #[.int .i64 (a : Int), .int .i64 (b : Int), .int .i64 p, .slice A d.length c]] w fun e w' => ∃ v3_ : Value, e = .returned (.agg #[.int .i64 (a : Int), .int .i64 (b : Int), .int .i64 p, v3_]) ∧ Kd.R (Kd.int .i64) 3 w' w.heap.size (fun _ => True) v3_ (imgD (mirPx a p d) a b) ∧ Below w.heap.size w w' := by
  have HC := Aside0.mk hc0_3
  have HR := Aside0.mk hr0_3
  have HB0 := Aside0.mk (Below.refl w.heap.size w)
  have E1 := Aside0.mk (impl_isImage_eq a b p d)
  have HV := Aside0.mk hv1
  have hu := Try.underlying28
  clear hr0_3 hc0_3
  rw [hv1] at E1
  have hs := ((validI_iff a b p d).1 hv1).1
  have HPL := Aside0.mk (show ∀ x y, x < a → y < b → (mirPx a p d x y).length ≤ 4 from fun x y hx hy => pxAt_le hv1 (by omega) (by omega))
  clear hv1
  go_enter Try.func25, Try.ntmps25
  go_wp2_with (first
    | ((with_reducible refine gate_dst (N := 1) rfl ?_); refine box_event ?hg (N := 1) ?hd (cs := #[.int .i64 (a : Int), .int .i64 (b : Int), .int .i64 p, .slice A d.length c]) (t := 28) ?hr ?_; (case hd => rfl); (case hg => rfl); (case hr => first | (go_simp; done) | (go_simp; rfl)); intro g1 hg_ w1 hbox hb; have HB1 := Aside0.mk (below_then HB0.out HB0.out.size hb); have Kb0 := Aside0.mk hbox; have Gg1 := Aside0.mk (show w.heap.size ≤ g1 from by rw [hg_]; exact HB0.out.size); have Kg1_1 := Aside0.mk hbox; clear hbox hb hg_)
    | ((with_reducible refine gate_dst (N := 2) rfl ?_); refine box_event ?hg (N := 2) ?hd (cs := #[.int .i64 0, .int .i64 0, .int .i64 0, .slice none 0 0]) (t := 28) ?hr ?_; (case hd => rfl); (case hg => rfl); (case hr => first | (go_simp; done) | (go_simp; rfl)); intro g2 hg_ w2 hbox hb; have HB2 := Aside0.mk (below_then HB1.out HB1.out.size hb); have Kb1 := Aside0.mk hbox; have Gg2 := Aside0.mk (show w.heap.size ≤ g2 from by rw [hg_]; exact HB1.out.size); have Kg1_2 := Aside0.mk (blk_below Kg1_1.out hb); have Kg2_2 := Aside0.mk hbox; have fg1_0 : w2.cell? ⟨g1, 0, none⟩ = some (.int .i64 (a : Int)) := (blk_cell Kg1_2.out 0).trans rfl; have fg1_1 : w2.cell? ⟨g1, 1, none⟩ = some (.int .i64 (b : Int)) := (blk_cell Kg1_2.out 1).trans rfl; have fg1_2 : w2.cell? ⟨g1, 2, none⟩ = some (.int .i64 p) := (blk_cell Kg1_2.out 2).trans rfl; have fg1_3 : w2.cell? ⟨g1, 3, none⟩ = some (.slice A d.length c) := (blk_cell Kg1_2.out 3).trans rfl; have fg2_0 : w2.cell? ⟨g2, 0, none⟩ = some (.int .i64 0) := (blk_cell Kg2_2.out 0).trans rfl; have fg2_1 : w2.cell? ⟨g2, 1, none⟩ = some (.int .i64 0) := (blk_cell Kg2_2.out 1).trans rfl; have fg2_2 : w2.cell? ⟨g2, 2, none⟩ = some (.int .i64 0) := (blk_cell Kg2_2.out 2).trans rfl; have fg2_3 : w2.cell? ⟨g2, 3, none⟩ = some (.slice none 0 0) := (blk_cell Kg2_2.out 3).trans rfl; clear hbox hb hg_)
    | (go_at_call 43; (with_reducible refine (impl_isImage.calls a b p A c d _ w2 (Kd.C_below HR.out HB2.out) HC.out E1.out).mono ?_); rintro e w3 ⟨rfl, hb_⟩; have HB3 := Aside0.mk (below_then HB2.out HB2.out.size hb_); have Kg1_3 := Aside0.mk (blk_below Kg1_2.out hb_); have eg1_3_0 : w3.cell? ⟨g1, 0, none⟩ = some (.int .i64 (a : Int)) := (blk_cell Kg1_3.out 0).trans rfl; have eg1_3_1 : w3.cell? ⟨g1, 1, none⟩ = some (.int .i64 (b : Int)) := (blk_cell Kg1_3.out 1).trans rfl; have eg1_3_2 : w3.cell? ⟨g1, 2, none⟩ = some (.int .i64 p) := (blk_cell Kg1_3.out 2).trans rfl; have eg1_3_3 : w3.cell? ⟨g1, 3, none⟩ = some (.slice A d.length c) := (blk_cell Kg1_3.out 3).trans rfl; have Kg2_3 := Aside0.mk (blk_below Kg2_2.out hb_); have eg2_3_0 : w3.cell? ⟨g2, 0, none⟩ = some (.int .i64 0) := (blk_cell Kg2_3.out 0).trans rfl; have eg2_3_1 : w3.cell? ⟨g2, 1, none⟩ = some (.int .i64 0) := (blk_cell Kg2_3.out 1).trans rfl; have eg2_3_2 : w3.cell? ⟨g2, 2, none⟩ = some (.int .i64 0) := (blk_cell Kg2_3.out 2).trans rfl; have eg2_3_3 : w3.cell? ⟨g2, 3, none⟩ = some (.slice none 0 0) := (blk_cell Kg2_3.out 3).trans rfl; have yg2_3_0 := blk_frozen Kg2_3.out 0; have yg2_3_1 := blk_frozen Kg2_3.out 1; have yg2_3_2 := blk_frozen Kg2_3.out 2; have yg2_3_3 := blk_frozen Kg2_3.out 3; clear hb_)
    | (go_at_call 53; refine (imageBy_calls 54 #[.pointer (some ⟨g1, 0, none⟩)] (mirPx a p d) a b p (by omega) (by omega) w3 (enters_of Try.func54 (by kernel_rfl) rfl) HPL.out (fun W x y hx hy hW => mirror1_calls a b p A c d HV.out HC.out x y (by omega) (by omega) g1 W (blk_below Kg1_3.out hW) (Kd.C_below (Kd.C_below HR.out HB3.out) hW))).mono ?_; rintro e w4 ⟨v4, rfl, hr4, hb_⟩; have HB4 := Aside0.mk (below_then HB3.out HB3.out.size hb_); have Kg1_4 := Aside0.mk (blk_below Kg1_3.out hb_); have eg1_4_0 : w4.cell? ⟨g1, 0, none⟩ = some (.int .i64 (a : Int)) := (blk_cell Kg1_4.out 0).trans rfl; have eg1_4_1 : w4.cell? ⟨g1, 1, none⟩ = some (.int .i64 (b : Int)) := (blk_cell Kg1_4.out 1).trans rfl; have eg1_4_2 : w4.cell? ⟨g1, 2, none⟩ = some (.int .i64 p) := (blk_cell Kg1_4.out 2).trans rfl; have eg1_4_3 : w4.cell? ⟨g1, 3, none⟩ = some (.slice A d.length c) := (blk_cell Kg1_4.out 3).trans rfl; have Kg2_4 := Aside0.mk (blk_below Kg2_3.out hb_); have eg2_4_0 : w4.cell? ⟨g2, 0, none⟩ = some (.int .i64 0) := (blk_cell Kg2_4.out 0).trans rfl; have eg2_4_1 : w4.cell? ⟨g2, 1, none⟩ = some (.int .i64 0) := (blk_cell Kg2_4.out 1).trans rfl; have eg2_4_2 : w4.cell? ⟨g2, 2, none⟩ = some (.int .i64 0) := (blk_cell Kg2_4.out 2).trans rfl; have eg2_4_3 : w4.cell? ⟨g2, 3, none⟩ = some (.slice none 0 0) := (blk_cell Kg2_4.out 3).trans rfl; have yg2_4_0 := blk_frozen Kg2_4.out 0; have yg2_4_1 := blk_frozen Kg2_4.out 1; have yg2_4_2 := blk_frozen Kg2_4.out 2; have yg2_4_3 := blk_frozen Kg2_4.out 3; have HR4 := Aside0.mk (Kd.R_lower hr4 HB3.out.size); obtain ⟨A4, c4, ev4⟩ := Kd.R_slice HR4.out; subst ev4; clear hr4 hb_))
  have G2 := Gg2.out
  have RR := Kd.R_types HR4.out Kg2_4.out (by decide)
  refine bodyPost_ret (results_cell_row rfl _ _ g2 28 #[.int .i64 (a : Int), .int .i64 (b : Int), .int .i64 p, .slice A4 (imgD (mirPx a p d) a b).length c4] (0, 0) _ rfl (by
    refine blk_put (cs := #[.int .i64 (a : Int), .int .i64 (b : Int), .int .i64 p, .slice none 0 0]) ?_ 3 _ rfl
    refine blk_put (cs := #[.int .i64 (a : Int), .int .i64 (b : Int), .int .i64 0, .slice none 0 0]) ?_ 2 _ rfl
    refine blk_put (cs := #[.int .i64 (a : Int), .int .i64 0, .int .i64 0, .slice none 0 0]) ?_ 1 _ rfl
    refine blk_put (cs := #[.int .i64 0, .int .i64 0, .int .i64 0, .slice none 0 0]) ?_ 0 _ rfl
    exact Kg2_4.out
    ) hu rfl (by kernel_rfl)) rfl ?_
  exact ⟨_, rfl, Kd.R_mono (Kd.R_far (Kd.R_far (Kd.R_far (Kd.R_far RR (fun k hk => hk.2) _) (fun k hk => hk.2) _) (fun k hk => hk.2) _) (fun k hk => hk.2) _) (fun _ _ => trivial), below_set (below_set (below_set (below_set HB4.out (by omega)) (by omega)) (by omega)) (by omega)⟩
theorem impl_MirrorImage.calls (a b p : Int) (A : Option Addr) (c : Nat) (d : List Int) (r1 r2 r3 : Int) (r4 : List Int) (w : World) (hr0_3 : Kd.C (Kd.int .i64) w A d.length d) (hc0_3 : d.length ≤ c) (h : impl_MirrorImage.f a b p d = some (r1, r2, r3, r4)) :
    Calls Try.prog 25 #[.agg #[.int .i64 a, .int .i64 b, .int .i64 p, .slice A d.length c]] w fun e w' => ∃ v3_ : Value, e = .returned (.agg #[.int .i64 r1, .int .i64 r2, .int .i64 r3, v3_]) ∧ Kd.R (Kd.int .i64) 3 w' w.heap.size (fun _ => True) v3_ r4 ∧ Below w.heap.size w w' := by
  have hv := Option.some.inj h
  cases hv1 : validI a b p d with
  | false =>
    rw [hv1, if_neg (by simp)] at hv
    obtain ⟨rfl, rfl, rfl, rfl⟩ : 0 = r1 ∧ 0 = r2 ∧ 0 = r3 ∧ [] = r4 := by simpa using hv
    exact mirror_no a b p A c d w hr0_3 hc0_3 hv1
  | true =>
    have hs := ((validI_iff a b p d).1 hv1).1
    obtain ⟨an, rfl⟩ := Int.eq_ofNat_of_zero_le (show 0 ≤ a by omega)
    obtain ⟨bn, rfl⟩ := Int.eq_ofNat_of_zero_le (show 0 ≤ b by omega)
    rw [hv1, if_pos rfl] at hv
    obtain ⟨rfl, rfl, rfl, rfl⟩ : (an : Int) = r1 ∧ (bn : Int) = r2 ∧ p = r3 ∧ imgD (mirPx an p d) an bn = r4 := by simpa using hv
    exact mirror_yes an bn p A c d w hr0_3 hc0_3 hv1

/- impl.TurnImage's function value: a pixel of the image before a quarter. -/

set_option maxHeartbeats 1600000 in
set_option maxRecDepth 100000 in
theorem turn1_calls (a b p : Int) (A : Option Addr) (c : Nat) (d : List Int) (hv : validI a b p d = true) (hc : d.length ≤ c) (x y : Nat) (hx : (x : Int) < b) (hy : (y : Int) < a) (B : Nat) (w : World) (h1 : w.heap[B]? = some (.cells #[.int .i64 a, .int .i64 b, .int .i64 p, .slice A d.length c] 28 (0, 0))) (hr : Kd.C (Kd.int .i64) w A d.length d) :
    Calls Try.prog 56 (#[.int .i64 (x : Int), .int .i64 (y : Int)] ++ #[.pointer (some ⟨B, 0, none⟩)]) w fun e w' => ∃ (A' : Option Addr) (c' : Nat), e = .returned (.slice A' (pxAt a p d (y) ((b - 1 - (x : Int)).toNat)).length c') ∧ Kd.C (Kd.int .i64) w' A' (pxAt a p d (y) ((b - 1 - (x : Int)).toNat)).length (pxAt a p d (y) ((b - 1 - (x : Int)).toNat)) ∧ (pxAt a p d (y) ((b - 1 - (x : Int)).toNat)).length ≤ c' ∧ Below w.heap.size w w' := by
  have hs := ((validI_iff a b p d).1 hv).1
  have k0 := (blk_cell h1 0).trans rfl; have k1 := (blk_cell h1 1).trans rfl; have k2 := (blk_cell h1 2).trans rfl; have k3 := (blk_cell h1 3).trans rfl
  have hX : (((b - 1 - (x : Int)).toNat : Nat) : Int) = b - 1 - (x : Int) := Int.toNat_of_nonneg (by omega)
  obtain ⟨A', c', hc', HA⟩ := at_px (x := y) (y := (b - 1 - (x : Int)).toNat) A c hv hc hy (by omega)
  have HA' := HA w hr
  rw [hX] at HA'
  generalize pxAt a p d (y) ((b - 1 - (x : Int)).toNat) = px at *
  replace HA' := Aside0.mk HA'
  clear HA hr h1 hv hc
  simp only [List.append_toArray, List.cons_append, List.nil_append]
  go_enter Try.func56, Try.ntmps56
  go_wp2_with (first | (go_at_call 55; (with_reducible refine (HA'.out.2).mono ?_); rintro e w2 ⟨rfl, hb⟩))
  go_ret
  exact ⟨A', c', rfl, Kd.C_below HA'.out.1 hb, hc', hb⟩
end Go.Proofs.Ytgccpcnakkioiaa.Q

namespace Go.Proofs.Ytgccpcnakkioiaa.Q
open Go.RowKit Go.Proofs.YtgccpcnakkioiaaW.PrintWords Go.Proofs.YtgccpcnakkioiaaW.PrintLast Go.Proofs.YtgccpcnakkioiaaW.PrintMore
attribute [local go_sem] max2_int min2_int max_two min_two max_three min_three max_four min_four
set_option linter.unusedVariables false
set_option linter.unusedSimpArgs false
def impl_copyImage.f (a0_0 : Int) (a0_1 : Int) (a0_2 : Int) (l0_3 : List Int) : Option (Int × Int × Int × List Int) := (some (([] : List Int) : List Int)).bind fun y45003 => (if y45003.length + l0_3.length < 17592186044416 then (some (a0_0, a0_1, a0_2, (y45003 ++ l0_3))) else none)
set_option maxHeartbeats 8000000 in
set_option maxRecDepth 100000 in
theorem impl_copyImage.calls (a0_0 : Int) (a0_1 : Int) (a0_2 : Int) (A0_3 : Option Addr) (c0_3 : Nat) (l0_3 : List Int) (r1 : Int) (r2 : Int) (r3 : Int) (r4 : List Int) (w : World) (hr0_3 : Kd.C (Kd.int .i64) w A0_3 l0_3.length l0_3) (hc0_3 : l0_3.length ≤ c0_3) (h : impl_copyImage.f a0_0 a0_1 a0_2 l0_3 = some (r1, r2, r3, r4)) :
    Calls Try.prog 44 #[.agg #[.int .i64 a0_0, .int .i64 a0_1, .int .i64 a0_2, .slice A0_3 l0_3.length c0_3]] w fun e w' => ∃ v3_ : Value, e = .returned (.agg #[.int .i64 r1, .int .i64 r2, .int .i64 r3, v3_]) ∧ Kd.R (Kd.int .i64) 3 w' w.heap.size (fun _ => True) v3_ r4 ∧ Below w.heap.size w w' := by
  have hu28 := Try.underlying28
  have HR0_3 := Aside0.mk hr0_3
  have HC0_3 := Aside0.mk hc0_3
  clear hr0_3 hc0_3
  have HB := Aside0.mk (Below.refl w.heap.size w)
  have H : ((some (([] : List Int) : List Int)).bind fun y45003 => (if y45003.length + l0_3.length < 17592186044416 then (some (a0_0, a0_1, a0_2, (y45003 ++ l0_3))) else none)) = some (r1, r2, r3, r4) := h
  clear h
  obtain ⟨y45003, hy45003⟩ : ∃ y_ : List Int, y_ = ([] : List Int) := ⟨_, rfl⟩
  replace H : (if y45003.length + l0_3.length < 17592186044416 then (some (a0_0, a0_1, a0_2, (y45003 ++ l0_3))) else none) = some (r1, r2, r3, r4) := by (have H2_ := (Option.bind_some _ _).symm.trans H; rw [hy45003]; with_reducible exact H2_)
  have Ny45003 := Aside0.mk hy45003
  clear hy45003
  by_cases c2 : y45003.length + l0_3.length < 17592186044416
  · rw [if_pos c2] at H
    have LMc2 := Aside0.mk c2
    clear c2
    obtain ⟨y45006, hy45006⟩ : ∃ y_ : List Int, y_ = (y45003 ++ l0_3) := ⟨_, rfl⟩
    replace H : (some (a0_0, a0_1, a0_2, y45006)) = some (r1, r2, r3, r4) := by (rw [hy45006]; with_reducible exact H)
    have Ny45006 := Aside0.mk hy45006
    clear hy45006
    simp only [Option.some.injEq, Prod.mk.injEq] at H
    obtain ⟨rfl, rfl, rfl, rfl⟩ := H
    go_enter Try.func44, Try.ntmps44
    go_wp2_with (first | ((with_reducible refine gate_dst (N := 1) rfl ?_); refine box_event ?hg (N := 1) ?hd (cs := #[.int .i64 a0_0, .int .i64 a0_1, .int .i64 a0_2, .slice A0_3 l0_3.length c0_3]) (t := 28) ?hr ?_; (case hd => rfl); (case hg => rfl); (case hr => (go_simp; done)); intro gb45001 hg w3 hbox hb; have n0_ := Aside0.mk (below_step HB.out hb); have n1_ := Aside0.mk (hbox); have n2_ := Aside0.mk ((by rw [hg]; exact (below_size HB.out) : w.heap.size ≤ gb45001)); have n3_ := Aside0.mk ((by rw [hg]; exact (below_size HB.out) : w.heap.size ≤ gb45001)); clear HB; have HB := n0_; have BK45001 := n1_; have GW45001 := n2_; have GE45001 := n3_; clear n0_ n1_ n2_ n3_; clear hb hbox hg) | ((with_reducible refine gate_dst (N := 2) rfl ?_); refine box_event ?hg (N := 2) ?hd (cs := #[.int .i64 0, .int .i64 0, .int .i64 0, .slice none 0 0]) (t := 28) ?hr ?_; (case hd => rfl); (case hg => rfl); (case hr => (go_simp; done)); intro gb45002 hg w4 hbox hb; have n0_ := Aside0.mk (blk_below BK45001.out hb); have n1_ := Aside0.mk (below_step HB.out hb); have n2_ := Aside0.mk (hbox); have n3_ := Aside0.mk ((by rw [hg]; exact (below_size HB.out) : w.heap.size ≤ gb45002)); have n4_ := Aside0.mk ((by rw [hg]; exact (below_size HB.out) : w.heap.size ≤ gb45002)); have n5_ := Aside0.mk ((by rw [hg]; exact Nat.ne_of_lt (blk_lt BK45001.out) : gb45001 ≠ gb45002)); have n6_ := Aside0.mk ((by rw [hg]; exact Nat.ne_of_gt (blk_lt BK45001.out) : gb45002 ≠ gb45001)); clear BK45001; clear HB; have BK45001 := n0_; have HB := n1_; have BK45002 := n2_; have GW45002 := n3_; have GE45002 := n4_; have NB45001_45002 := n5_; have NB45002_45001 := n6_; clear n0_ n1_ n2_ n3_ n4_ n5_ n6_; clear hb hbox hg) | ((with_reducible refine gate_dst (N := 3) rfl ?_); refine Kd.R_lit (Kd.int .i64) _ 3 ?hg (N := 3) ?hd (xs := ([] : List Int)) (inner := []) (ok := fun _ => True) (okp := fun _ => True) ?hr ?hp (fun _ hk => hk) trivial (Below.refl _ _) (Nat.le_refl _) (by simp) ?_; (case hd => rfl); (case hg => rfl); (case hr => (go_simp; done)); (case hp => exact (Reps.none _ _)); intro v45004 w5 ho6 hb hg_ hnew_; clear hg_ hnew_; (rw [← Ny45003.out] at ho6); have n0_ := Aside0.mk (Kd.R_lower ho6 (below_size HB.out)); have n1_ := Aside0.mk (blk_below BK45001.out hb); have n2_ := Aside0.mk (blk_below BK45002.out hb); have n3_ := Aside0.mk (below_step HB.out hb); clear BK45001; clear BK45002; clear HB; have HO45005 := n0_; have BK45001 := n1_; have BK45002 := n2_; have HB := n3_; clear n0_ n1_ n2_ n3_; clear hb ho6; have hnb7 := NB45001_45002.out; have hnc7 := NB45002_45001.out; have hcz8_0 : w5.cell? ⟨gb45001, 0, none⟩ = some (.int .i64 a0_0) := (blk_cell BK45001.out 0).trans rfl; have hcz8_1 : w5.cell? ⟨gb45001, 1, none⟩ = some (.int .i64 a0_1) := (blk_cell BK45001.out 1).trans rfl; have hcz8_2 : w5.cell? ⟨gb45001, 2, none⟩ = some (.int .i64 a0_2) := (blk_cell BK45001.out 2).trans rfl; have hcz8_3 : w5.cell? ⟨gb45001, 3, none⟩ = some (.slice A0_3 l0_3.length c0_3) := (blk_cell BK45001.out 3).trans rfl; have hfz8_0 := blk_frozen BK45001.out 0; have hfz8_1 := blk_frozen BK45001.out 1; have hfz8_2 := blk_frozen BK45001.out 2; have hfz8_3 := blk_frozen BK45001.out 3) | ((with_reducible refine gate_builtin (b := .append) (xs := #[.tmp 3, .tmp 5]) rfl ?_); at_builtin; refine Kd.R_append_rows (Kd.int .i64) (w0 := w) w.heap.size rfl (.tmp 3) (.tmp 5) 22 3 (.int .i64 0) 8 rfl Try.underlying22 info3 rfl (by decide) (by omega) v45004 y45003 l0_3 _ _ _ (fun _ => True) (fun _ => False) rfl rfl ?aO ?aR (fun _ _ h => h) (fun _ h => h.elim) ?aF ?aB ?aS ?aL ?_; (case aR => repeat (exact (Kd.C_below HR0_3.out HB.out))); (case aB => exact HB.out); (case aF => exact (fun _ _ => trivial)); (case aO => exact HO45005.out); (case aS => exact (below_size HB.out)); (case aL => have := LMc2.out; omega); intro v45007 w9 ho hb hg hat; rw [← Ny45006.out] at ho; have n0_ := Aside0.mk (blk_grown (g := gb45001) (o := .cells #[.int .i64 a0_0, .int .i64 a0_1, .int .i64 a0_2, .slice A0_3 l0_3.length c0_3] 28 (0, 0)) BK45001.out hg (Kd.R_ne HO45005.out BK45001.out (by decide))); have n1_ := Aside0.mk (blk_grown (g := gb45002) (o := .cells #[.int .i64 0, .int .i64 0, .int .i64 0, .slice none 0 0] 28 (0, 0)) BK45002.out hg (Kd.R_ne HO45005.out BK45002.out (by decide))); have n2_ := Aside0.mk (hb); have n3_ := Aside0.mk (ho); clear BK45001; clear BK45002; clear HB; clear HO45005; have BK45001 := n0_; have BK45002 := n1_; have HB := n2_; have HO45008 := n3_; clear n0_ n1_ n2_ n3_; clear ho hb hg hat; obtain ⟨Ao10, co10, eo10⟩ := Kd.R_slice HO45008.out; subst eo10; have hcz11_0 : w9.cell? ⟨gb45001, 0, none⟩ = some (.int .i64 a0_0) := (blk_cell BK45001.out 0).trans rfl; have hcz11_1 : w9.cell? ⟨gb45001, 1, none⟩ = some (.int .i64 a0_1) := (blk_cell BK45001.out 1).trans rfl; have hcz11_2 : w9.cell? ⟨gb45001, 2, none⟩ = some (.int .i64 a0_2) := (blk_cell BK45001.out 2).trans rfl; have hcz11_3 : w9.cell? ⟨gb45001, 3, none⟩ = some (.slice A0_3 l0_3.length c0_3) := (blk_cell BK45001.out 3).trans rfl; have hfz11_0 := blk_frozen BK45001.out 0; have hfz11_1 := blk_frozen BK45001.out 1; have hfz11_2 := blk_frozen BK45001.out 2; have hfz11_3 := blk_frozen BK45001.out 3; have hcz12_0 : w9.cell? ⟨gb45002, 0, none⟩ = some (.int .i64 0) := (blk_cell BK45002.out 0).trans rfl; have hcz12_1 : w9.cell? ⟨gb45002, 1, none⟩ = some (.int .i64 0) := (blk_cell BK45002.out 1).trans rfl; have hcz12_2 : w9.cell? ⟨gb45002, 2, none⟩ = some (.int .i64 0) := (blk_cell BK45002.out 2).trans rfl; have hcz12_3 : w9.cell? ⟨gb45002, 3, none⟩ = some (.slice none 0 0) := (blk_cell BK45002.out 3).trans rfl; have hfz12_0 := blk_frozen BK45002.out 0; have hfz12_1 := blk_frozen BK45002.out 1; have hfz12_2 := blk_frozen BK45002.out 2; have hfz12_3 := blk_frozen BK45002.out 3))
    refine bodyPost_ret (results_cell_row rfl _ _ gb45002 28 #[.int .i64 a0_0, .int .i64 a0_1, .int .i64 a0_2, .slice Ao10 y45006.length co10] (0, 0) _ rfl (by refine blk_put (cs := #[.int .i64 a0_0, .int .i64 a0_1, .int .i64 a0_2, .slice none 0 0]) ?_ 3 _ rfl; (with_reducible repeat (first | refine blk_drewN ?_ _ | refine blk_drew ?_ | refine blk_alloc ?_ _)); refine blk_put (cs := #[.int .i64 a0_0, .int .i64 a0_1, .int .i64 0, .slice none 0 0]) ?_ 2 _ rfl; (with_reducible repeat (first | refine blk_drewN ?_ _ | refine blk_drew ?_ | refine blk_alloc ?_ _)); refine blk_put (cs := #[.int .i64 a0_0, .int .i64 0, .int .i64 0, .slice none 0 0]) ?_ 1 _ rfl; (with_reducible repeat (first | refine blk_drewN ?_ _ | refine blk_drew ?_ | refine blk_alloc ?_ _)); refine blk_put (cs := #[.int .i64 0, .int .i64 0, .int .i64 0, .slice none 0 0]) ?_ 0 _ rfl; (with_reducible repeat (first | refine blk_drewN ?_ _ | refine blk_drew ?_ | refine blk_alloc ?_ _)); refine blk_far ?_ NB45002_45001.out _; (with_reducible repeat (first | refine blk_drewN ?_ _ | refine blk_drew ?_ | refine blk_alloc ?_ _)); exact BK45002.out) Try.underlying28 rfl (by kernel_rfl)) rfl ?_
    exact ⟨_, by rfl, by (with_reducible repeat (first | apply Kd.R_alloc | apply Kd.R_drewN | apply Kd.R_drew)); exact Kd.R_mono (Kd.R_far (p := ⟨gb45002, 3, none⟩) (Kd.R_far (p := ⟨gb45002, 2, none⟩) (Kd.R_far (p := ⟨gb45002, 1, none⟩) (Kd.R_far (p := ⟨gb45002, 0, none⟩) (Kd.R_far (p := ⟨gb45001, 3, none⟩) (Kd.R_types (Kd.R_types HO45008.out BK45001.out (by decide)) BK45002.out (by decide)) (fun _ hk => hk.1.2) (.slice Ao10 y45006.length co10)) (fun _ hk => hk.2) (.int .i64 a0_0)) (fun _ hk => hk.2) (.int .i64 a0_1)) (fun _ hk => hk.2) (.int .i64 a0_2)) (fun _ hk => hk.2) (.slice Ao10 y45006.length co10)) (fun _ hk => trivial), by repeat (with_reducible first | exact HB.out | refine below_set ?_ GE45001.out | refine below_set ?_ GE45002.out)⟩
  · rw [if_neg c2] at H
    exact absurd H (by simp)

end Go.Proofs.Ytgccpcnakkioiaa.Q

/- impl.TurnImage, of one quarter. -/
namespace Go.Proofs.Ytgccpcnakkioiaa.Q
open Go.RowKit Go.Proofs.YtgccpcnakkioiaaW.PrintWords Go.Proofs.YtgccpcnakkioiaaW.PrintLast Go.Proofs.YtgccpcnakkioiaaW.PrintMore
attribute [local go_sem] max2_int min2_int max_two min_two max_three min_three max_four min_four
set_option linter.unusedVariables false
set_option linter.unusedSimpArgs false
open Go.Proofs.Ytgccpcnakkioiaa.Pure

def turnPx (a b p : Int) (d : List Int) (x y : Nat) : List Int := pxAt a p d y (b - 1 - (x : Int)).toNat
def impl_TurnImage.f (a b p : Int) (d : List Int) (k : Int) : Option (Int × Int × Int × List Int) := if k = 1 then some (if validI a b p d = true then (b, a, p, imgD (turnPx a b p d) b.toNat a.toNat) else (0, 0, 0, [])) else none
set_option maxHeartbeats 4000000 in
set_option maxRecDepth 100000 in
theorem turn_no (a b p : Int) (A : Option Addr) (c : Nat) (d : List Int) (w : World) (hr0_3 : Kd.C (Kd.int .i64) w A d.length d) (hc0_3 : d.length ≤ c) (hv1 : validI a b p d = false) :
    Calls Try.prog 26 #[.agg #[.int .i64 a, .int .i64 b, .int .i64 p, .slice A d.length c], .int .i64 1] w fun e w' => ∃ v3_ : Value, e = .returned (.agg #[.int .i64 0, .int .i64 0, .int .i64 0, v3_]) ∧ Kd.R (Kd.int .i64) 3 w' w.heap.size (fun _ => True) v3_ [] ∧ Below w.heap.size w w' := by
  have HC := Aside0.mk hc0_3
  have HR := Aside0.mk hr0_3
  have HB0 := Aside0.mk (Below.refl w.heap.size w)
  have E1 := Aside0.mk (impl_isImage_eq a b p d)
  have HV := Aside0.mk hv1
  have hu := Try.underlying28
  clear hr0_3 hc0_3
  rw [hv1] at E1
  go_enter Try.func26, Try.ntmps26
  go_wp2_with (first
    | ((with_reducible refine gate_dst (N := 2) rfl ?_); refine box_event ?hg (N := 2) ?hd (cs := #[.int .i64 a, .int .i64 b, .int .i64 p, .slice A d.length c]) (t := 28) ?hr ?_; (case hd => rfl); (case hg => rfl); (case hr => first | (go_simp; done) | (go_simp; rfl)); intro g1 hg_ w1 hbox hb; have HB1 := Aside0.mk (below_then HB0.out HB0.out.size hb); have Kb0 := Aside0.mk hbox; have Gg1 := Aside0.mk (show w.heap.size ≤ g1 from by rw [hg_]; exact HB0.out.size); have Kg1_1 := Aside0.mk hbox; clear hbox hb hg_)
    | ((with_reducible refine gate_dst (N := 4) rfl ?_); refine box_event ?hg (N := 4) ?hd (cs := #[.int .i64 0, .int .i64 0, .int .i64 0, .slice none 0 0]) (t := 28) ?hr ?_; (case hd => rfl); (case hg => rfl); (case hr => first | (go_simp; done) | (go_simp; rfl)); intro g2 hg_ w2 hbox hb; have HB2 := Aside0.mk (below_then HB1.out HB1.out.size hb); have Kb1 := Aside0.mk hbox; have Gg2 := Aside0.mk (show w.heap.size ≤ g2 from by rw [hg_]; exact HB1.out.size); have Kg1_2 := Aside0.mk (blk_below Kg1_1.out hb); have Kg2_2 := Aside0.mk hbox; have fg1_0 : w2.cell? ⟨g1, 0, none⟩ = some (.int .i64 a) := (blk_cell Kg1_2.out 0).trans rfl; have fg1_1 : w2.cell? ⟨g1, 1, none⟩ = some (.int .i64 b) := (blk_cell Kg1_2.out 1).trans rfl; have fg1_2 : w2.cell? ⟨g1, 2, none⟩ = some (.int .i64 p) := (blk_cell Kg1_2.out 2).trans rfl; have fg1_3 : w2.cell? ⟨g1, 3, none⟩ = some (.slice A d.length c) := (blk_cell Kg1_2.out 3).trans rfl; have fg2_0 : w2.cell? ⟨g2, 0, none⟩ = some (.int .i64 0) := (blk_cell Kg2_2.out 0).trans rfl; have fg2_1 : w2.cell? ⟨g2, 1, none⟩ = some (.int .i64 0) := (blk_cell Kg2_2.out 1).trans rfl; have fg2_2 : w2.cell? ⟨g2, 2, none⟩ = some (.int .i64 0) := (blk_cell Kg2_2.out 2).trans rfl; have fg2_3 : w2.cell? ⟨g2, 3, none⟩ = some (.slice none 0 0) := (blk_cell Kg2_2.out 3).trans rfl; clear hbox hb hg_)
    | (go_at_call 43; (with_reducible refine (impl_isImage.calls a b p A c d _ w2 (Kd.C_below HR.out HB2.out) HC.out E1.out).mono ?_); rintro e w3 ⟨rfl, hb_⟩; have HB3 := Aside0.mk (below_then HB2.out HB2.out.size hb_); have Kg1_3 := Aside0.mk (blk_below Kg1_2.out hb_); have eg1_3_0 : w3.cell? ⟨g1, 0, none⟩ = some (.int .i64 a) := (blk_cell Kg1_3.out 0).trans rfl; have eg1_3_1 : w3.cell? ⟨g1, 1, none⟩ = some (.int .i64 b) := (blk_cell Kg1_3.out 1).trans rfl; have eg1_3_2 : w3.cell? ⟨g1, 2, none⟩ = some (.int .i64 p) := (blk_cell Kg1_3.out 2).trans rfl; have eg1_3_3 : w3.cell? ⟨g1, 3, none⟩ = some (.slice A d.length c) := (blk_cell Kg1_3.out 3).trans rfl; have Kg2_3 := Aside0.mk (blk_below Kg2_2.out hb_); have eg2_3_0 : w3.cell? ⟨g2, 0, none⟩ = some (.int .i64 0) := (blk_cell Kg2_3.out 0).trans rfl; have eg2_3_1 : w3.cell? ⟨g2, 1, none⟩ = some (.int .i64 0) := (blk_cell Kg2_3.out 1).trans rfl; have eg2_3_2 : w3.cell? ⟨g2, 2, none⟩ = some (.int .i64 0) := (blk_cell Kg2_3.out 2).trans rfl; have eg2_3_3 : w3.cell? ⟨g2, 3, none⟩ = some (.slice none 0 0) := (blk_cell Kg2_3.out 3).trans rfl; have yg2_3_0 := blk_frozen Kg2_3.out 0; have yg2_3_1 := blk_frozen Kg2_3.out 1; have yg2_3_2 := blk_frozen Kg2_3.out 2; have yg2_3_3 := blk_frozen Kg2_3.out 3; clear hb_))
  refine bodyPost_ret (results_cell_row rfl _ _ g2 28 #[.int .i64 0, .int .i64 0, .int .i64 0, .slice none 0 0] (0, 0) _ rfl (by
    refine blk_put (cs := #[.int .i64 0, .int .i64 0, .int .i64 0, .slice none 0 0]) ?_ 3 _ rfl
    refine blk_put (cs := #[.int .i64 0, .int .i64 0, .int .i64 0, .slice none 0 0]) ?_ 2 _ rfl
    refine blk_put (cs := #[.int .i64 0, .int .i64 0, .int .i64 0, .slice none 0 0]) ?_ 1 _ rfl
    refine blk_put (cs := #[.int .i64 0, .int .i64 0, .int .i64 0, .slice none 0 0]) ?_ 0 _ rfl
    exact Kg2_3.out
    ) hu rfl (by kernel_rfl)) rfl ?_
  have G2 := Gg2.out
  exact ⟨_, rfl, Kd.R_nil _ _ _ _ _, below_set (below_set (below_set (below_set HB3.out (by omega)) (by omega)) (by omega)) (by omega)⟩
set_option maxHeartbeats 4000000 in
set_option maxRecDepth 100000 in
theorem turn_yes (a b : Nat) (p : Int) (A : Option Addr) (c : Nat) (d : List Int) (w : World) (hr0_3 : Kd.C (Kd.int .i64) w A d.length d) (hc0_3 : d.length ≤ c) (hv1 : validI a b p d = true) :
    Calls Try.prog 26 #[.agg #[.int .i64 (a : Int), .int .i64 (b : Int), .int .i64 p, .slice A d.length c], .int .i64 1] w fun e w' => ∃ v3_ : Value, e = .returned (.agg #[.int .i64 (b : Int), .int .i64 (a : Int), .int .i64 p, v3_]) ∧ Kd.R (Kd.int .i64) 3 w' w.heap.size (fun _ => True) v3_ (imgD (turnPx a b p d) b a) ∧ Below w.heap.size w w' := by
  have HC := Aside0.mk hc0_3
  have HR := Aside0.mk hr0_3
  have HB0 := Aside0.mk (Below.refl w.heap.size w)
  have E1 := Aside0.mk (impl_isImage_eq a b p d)
  have HV := Aside0.mk hv1
  have hu := Try.underlying28
  clear hr0_3 hc0_3
  rw [hv1] at E1
  have hs := ((validI_iff a b p d).1 hv1).1
  have hl := ((validI_iff a b p d).1 hv1).2.1
  have hsp := shape_prod hs
  have hpos : 0 < (a : Int) * b * p := Int.mul_pos (Int.mul_pos (by omega) (by omega)) (by omega)
  have HNE := Aside0.mk (show 0 < d.length by omega)
  have HCP := Aside0.mk (show impl_copyImage.f a b p d = some ((a : Int), (b : Int), p, d) from by
    unfold impl_copyImage.f
    simp only [Option.bind_some]
    rw [if_pos (by simp; omega)]
    simp)
  have HPL := Aside0.mk (show ∀ x y, x < b → y < a → (turnPx a b p d x y).length ≤ 4 from fun x y hx hy => pxAt_le hv1 (by omega) (by omega))
  clear hv1 hl hsp hpos
  go_enter Try.func26, Try.ntmps26
  go_wp2_with (first
    | ((with_reducible refine gate_dst (N := 2) rfl ?_); refine box_event ?hg (N := 2) ?hd (cs := #[.int .i64 (a : Int), .int .i64 (b : Int), .int .i64 p, .slice A d.length c]) (t := 28) ?hr ?_; (case hd => rfl); (case hg => rfl); (case hr => first | (go_simp; done) | (go_simp; rfl)); intro g1 hg_ w1 hbox hb; have HB1 := Aside0.mk (below_then HB0.out HB0.out.size hb); have Kb0 := Aside0.mk hbox; have Gg1 := Aside0.mk (show w.heap.size ≤ g1 from by rw [hg_]; exact HB0.out.size); have Kg1_1 := Aside0.mk hbox; clear hbox hb hg_)
    | ((with_reducible refine gate_dst (N := 4) rfl ?_); refine box_event ?hg (N := 4) ?hd (cs := #[.int .i64 0, .int .i64 0, .int .i64 0, .slice none 0 0]) (t := 28) ?hr ?_; (case hd => rfl); (case hg => rfl); (case hr => first | (go_simp; done) | (go_simp; rfl)); intro g2 hg_ w2 hbox hb; have HB2 := Aside0.mk (below_then HB1.out HB1.out.size hb); have Kb1 := Aside0.mk hbox; have Gg2 := Aside0.mk (show w.heap.size ≤ g2 from by rw [hg_]; exact HB1.out.size); have Kg1_2 := Aside0.mk (blk_below Kg1_1.out hb); have Kg2_2 := Aside0.mk hbox; have fg1_0 : w2.cell? ⟨g1, 0, none⟩ = some (.int .i64 (a : Int)) := (blk_cell Kg1_2.out 0).trans rfl; have fg1_1 : w2.cell? ⟨g1, 1, none⟩ = some (.int .i64 (b : Int)) := (blk_cell Kg1_2.out 1).trans rfl; have fg1_2 : w2.cell? ⟨g1, 2, none⟩ = some (.int .i64 p) := (blk_cell Kg1_2.out 2).trans rfl; have fg1_3 : w2.cell? ⟨g1, 3, none⟩ = some (.slice A d.length c) := (blk_cell Kg1_2.out 3).trans rfl; have fg2_0 : w2.cell? ⟨g2, 0, none⟩ = some (.int .i64 0) := (blk_cell Kg2_2.out 0).trans rfl; have fg2_1 : w2.cell? ⟨g2, 1, none⟩ = some (.int .i64 0) := (blk_cell Kg2_2.out 1).trans rfl; have fg2_2 : w2.cell? ⟨g2, 2, none⟩ = some (.int .i64 0) := (blk_cell Kg2_2.out 2).trans rfl; have fg2_3 : w2.cell? ⟨g2, 3, none⟩ = some (.slice none 0 0) := (blk_cell Kg2_2.out 3).trans rfl; clear hbox hb hg_)
    | (go_at_call 43; (with_reducible refine (impl_isImage.calls a b p A c d _ w2 (Kd.C_below HR.out HB2.out) HC.out E1.out).mono ?_); rintro e w3 ⟨rfl, hb_⟩; have HB3 := Aside0.mk (below_then HB2.out HB2.out.size hb_); have Kg1_3 := Aside0.mk (blk_below Kg1_2.out hb_); have eg1_3_0 : w3.cell? ⟨g1, 0, none⟩ = some (.int .i64 (a : Int)) := (blk_cell Kg1_3.out 0).trans rfl; have eg1_3_1 : w3.cell? ⟨g1, 1, none⟩ = some (.int .i64 (b : Int)) := (blk_cell Kg1_3.out 1).trans rfl; have eg1_3_2 : w3.cell? ⟨g1, 2, none⟩ = some (.int .i64 p) := (blk_cell Kg1_3.out 2).trans rfl; have eg1_3_3 : w3.cell? ⟨g1, 3, none⟩ = some (.slice A d.length c) := (blk_cell Kg1_3.out 3).trans rfl; have Kg2_3 := Aside0.mk (blk_below Kg2_2.out hb_); have eg2_3_0 : w3.cell? ⟨g2, 0, none⟩ = some (.int .i64 0) := (blk_cell Kg2_3.out 0).trans rfl; have eg2_3_1 : w3.cell? ⟨g2, 1, none⟩ = some (.int .i64 0) := (blk_cell Kg2_3.out 1).trans rfl; have eg2_3_2 : w3.cell? ⟨g2, 2, none⟩ = some (.int .i64 0) := (blk_cell Kg2_3.out 2).trans rfl; have eg2_3_3 : w3.cell? ⟨g2, 3, none⟩ = some (.slice none 0 0) := (blk_cell Kg2_3.out 3).trans rfl; have yg2_3_0 := blk_frozen Kg2_3.out 0; have yg2_3_1 := blk_frozen Kg2_3.out 1; have yg2_3_2 := blk_frozen Kg2_3.out 2; have yg2_3_3 := blk_frozen Kg2_3.out 3; clear hb_)
    | (go_at_call 44; (with_reducible refine (impl_copyImage.calls a b p A c d a b p d w3 (Kd.C_below HR.out HB3.out) HC.out HCP.out).mono ?_); rintro e w4 ⟨v4, rfl, hr4, hb4⟩; have HB4 := Aside0.mk (below_then HB3.out HB3.out.size hb4); have HR4 := Aside0.mk (Kd.R_lower hr4 HB3.out.size); have Kg1_4 := Aside0.mk (blk_below Kg1_3.out hb4); have Kg2_4 := Aside0.mk (blk_below Kg2_3.out hb4); obtain ⟨gr, cr, e4, hgr, hgl, _⟩ := Kd.R_form hr4 HNE.out; subst e4; clear hr4 hb4 hgr hgl))
  have HCR := Aside0.mk (Kd.R_reads' HR4.out).2.1
  have HGM := blk_new w4 (.cells #[.int .i64 (a : Int), .int .i64 (b : Int), .int .i64 p, .slice (some ⟨gr, 0, none⟩) d.length cr] 28 (0, 0))
  obtain ⟨g5, hg5⟩ : ∃ g5, g5 = w4.heap.size := ⟨_, rfl⟩
  have GE5 : w.heap.size ≤ g5 := by rw [hg5]; exact HB4.out.size
  have G25 : g2 < g5 := by rw [hg5]; exact blk_lt Kg2_4.out
  have G15 : g1 < g5 := by rw [hg5]; exact blk_lt Kg1_4.out
  rw [← hg5] at HGM ⊢
  have G2 := Gg2.out
  go_loopw [22] (fun v22 W => ((v22 = .int .i64 0 ∧ Aside0 (W.heap[g5]? = some (.cells #[.int .i64 (a : Int), .int .i64 (b : Int), .int .i64 p, .slice (some ⟨gr, 0, none⟩) d.length cr] 28 (0, 0))) ∧ Aside0 (Kd.C (Kd.int .i64) W (some ⟨gr, 0, none⟩) d.length d)) ∨ (v22 = .int .i64 1 ∧ ∃ v, Aside0 (W.heap[g5]? = some (.cells #[.int .i64 (b : Int), .int .i64 (a : Int), .int .i64 p, v] 28 (0, 0))) ∧ Aside0 (Kd.R (Kd.int .i64) 3 W w.heap.size (fun _ => True) v (imgD (turnPx a b p d) b a)))) ∧ Aside0 (W.heap[g1]? = some (.cells #[.int .i64 (a : Int), .int .i64 (b : Int), .int .i64 p, .slice A d.length c] 28 (0, 0))) ∧ Aside0 (W.heap[g2]? = some (.cells #[.int .i64 0, .int .i64 0, .int .i64 0, .slice none 0 0] 28 (0, 0))) ∧ Aside0 (Below w.heap.size w W)) (fun v22 _ => 1 - (intOf v22).toNat)
  case atStart => exact ⟨.inl ⟨rfl, ⟨HGM⟩, ⟨Kd.C_alloc (Kd.R_reads' HR4.out).2.2 _⟩⟩, ⟨blk_alloc Kg1_4.out _⟩, ⟨blk_alloc Kg2_4.out _⟩, ⟨below_alloc HB4.out _⟩⟩
  case round =>
    clear HGM hg5
    obtain ⟨hh, h1, h2, hb⟩ := hrel
    rcases hh with ⟨rfl, h5, HCO⟩ | ⟨rfl, v, h5, hr⟩
    · have m0 := blk_cell h5.out 0; have m1 := blk_cell h5.out 1; have m2 := blk_cell h5.out 2; have m3 := blk_cell h5.out 3
      have n2 : ∀ o, (wr.alloc o).cell? ⟨g1, 2, none⟩ = some (.int .i64 p) := fun o => (blk_cell (blk_alloc h1.out o) 2).trans rfl
      have hne : wr.heap.size ≠ g5 := by have := blk_lt h5.out; omega
      have hne1 : wr.heap.size ≠ g1 := by have := blk_lt h1.out; omega
      go_wp2_with (first
        | (go_at_call 53; refine (imageBy_calls 56 #[.pointer (some ⟨wr.heap.size, 0, none⟩)] (turnPx a b p d) b a p (by omega) (by omega) _ (enters_of Try.func56 (by kernel_rfl) rfl) HPL.out (fun W x y hx hy hW => turn1_calls a b p (some ⟨gr, 0, none⟩) cr d HV.out HCR.out x y (by omega) (by omega) wr.heap.size W (blk_below (blk_new _ _) hW) (Kd.C_below (Kd.C_alloc HCO.out _) hW))).mono ?_; rintro e w6 ⟨v6, rfl, hr6, hb6⟩; have HB6 := Aside0.mk (below_then (below_alloc hb.out _) (below_alloc hb.out _).size hb6); have h56 := Aside0.mk (blk_below (blk_alloc h5.out _) hb6); have h26 := Aside0.mk (blk_below (blk_alloc h2.out _) hb6); have h16 := Aside0.mk (blk_below (blk_alloc h1.out _) hb6); have HR6 := Aside0.mk (Kd.R_lower hr6 (below_alloc hb.out _).size); have q0 := blk_cell h56.out 0; have q1 := blk_cell h56.out 1; have q2 := blk_cell h56.out 2; have q3 := blk_cell h56.out 3; have u0 := blk_frozen h56.out 0; have u1 := blk_frozen h56.out 1; have u2 := blk_frozen h56.out 2; have u3 := blk_frozen h56.out 3; obtain ⟨A6, c6, ev6⟩ := Kd.R_slice HR6.out; subst ev6; clear hr6 hb6))
      have RR := Kd.R_types HR6.out h56.out (by decide)
      have H56 := h56.out
      refine ⟨⟨.inr ⟨rfl, .slice A6 (imgD (turnPx a b p d) b a).length c6, ⟨?_⟩, ⟨Kd.R_mono (Kd.R_far (Kd.R_far (Kd.R_far (Kd.R_far RR (fun k hk => hk.2) _) (fun k hk => hk.2) _) (fun k hk => hk.2) _) (fun k hk => hk.2) _) (fun _ _ => trivial)⟩⟩, ⟨blk_far (blk_far (blk_far (blk_far h16.out (by simp; omega) _) (by simp; omega) _) (by simp; omega) _) (by simp; omega) _⟩, ⟨blk_far (blk_far (blk_far (blk_far h26.out (by simp; omega) _) (by simp; omega) _) (by simp; omega) _) (by simp; omega) _⟩, ⟨below_set (below_set (below_set (below_set HB6.out (by omega)) (by omega)) (by omega)) (by omega)⟩⟩, by simp [intOf]⟩
      refine blk_put (cs := #[.int .i64 (b : Int), .int .i64 (a : Int), .int .i64 p, .slice (some ⟨gr, 0, none⟩) d.length cr]) ?_ 3 _ rfl
      refine blk_put (cs := #[.int .i64 (b : Int), .int .i64 (a : Int), .int .i64 p, .slice (some ⟨gr, 0, none⟩) d.length cr]) ?_ 2 _ rfl
      refine blk_put (cs := #[.int .i64 (b : Int), .int .i64 (b : Int), .int .i64 p, .slice (some ⟨gr, 0, none⟩) d.length cr]) ?_ 1 _ rfl
      exact blk_put (cs := #[.int .i64 (a : Int), .int .i64 (b : Int), .int .i64 p, .slice (some ⟨gr, 0, none⟩) d.length cr]) H56 0 _ rfl
    · have m0 := blk_cell h5.out 0; have m1 := blk_cell h5.out 1; have m2 := blk_cell h5.out 2; have m3 := blk_cell h5.out 3
      have z0 := blk_cell h2.out 0; have z1 := blk_cell h2.out 1; have z2 := blk_cell h2.out 2; have z3 := blk_cell h2.out 3
      have y0 := blk_frozen h2.out 0; have y1 := blk_frozen h2.out 1; have y2 := blk_frozen h2.out 2; have y3 := blk_frozen h2.out 3
      obtain ⟨A6, c6, ev6⟩ := Kd.R_slice hr.out
      subst ev6
      go_wp2
      have G2 := Gg2.out
      have RR := Kd.R_types hr.out h2.out (by decide)
      refine bodyPost_ret (results_cell_row rfl _ _ g2 28 #[.int .i64 (b : Int), .int .i64 (a : Int), .int .i64 p, .slice A6 (imgD (turnPx a b p d) b a).length c6] (0, 0) _ rfl (by
        refine blk_put (cs := #[.int .i64 (b : Int), .int .i64 (a : Int), .int .i64 p, .slice none 0 0]) ?_ 3 _ rfl
        refine blk_put (cs := #[.int .i64 (b : Int), .int .i64 (a : Int), .int .i64 0, .slice none 0 0]) ?_ 2 _ rfl
        refine blk_put (cs := #[.int .i64 (b : Int), .int .i64 0, .int .i64 0, .slice none 0 0]) ?_ 1 _ rfl
        refine blk_put (cs := #[.int .i64 0, .int .i64 0, .int .i64 0, .slice none 0 0]) ?_ 0 _ rfl
        exact h2.out
        ) hu rfl (by kernel_rfl)) rfl ?_
      exact ⟨_, rfl, Kd.R_mono (Kd.R_far (Kd.R_far (Kd.R_far (Kd.R_far RR (fun k hk => hk.2) _) (fun k hk => hk.2) _) (fun k hk => hk.2) _) (fun k hk => hk.2) _) (fun _ _ => trivial), below_set (below_set (below_set (below_set hb.out (by omega)) (by omega)) (by omega)) (by omega)⟩
theorem impl_TurnImage.calls (a b p : Int) (A : Option Addr) (c : Nat) (d : List Int) (k : Int) (r1 r2 r3 : Int) (r4 : List Int) (w : World) (hr0_3 : Kd.C (Kd.int .i64) w A d.length d) (hc0_3 : d.length ≤ c) (h : impl_TurnImage.f a b p d k = some (r1, r2, r3, r4)) :
    Calls Try.prog 26 #[.agg #[.int .i64 a, .int .i64 b, .int .i64 p, .slice A d.length c], .int .i64 k] w fun e w' => ∃ v3_ : Value, e = .returned (.agg #[.int .i64 r1, .int .i64 r2, .int .i64 r3, v3_]) ∧ Kd.R (Kd.int .i64) 3 w' w.heap.size (fun _ => True) v3_ r4 ∧ Below w.heap.size w w' := by
  unfold impl_TurnImage.f at h
  by_cases hk : k = 1
  · subst hk
    rw [if_pos rfl] at h
    have hv := Option.some.inj h
    cases hv1 : validI a b p d with
    | false =>
      rw [hv1, if_neg (by simp)] at hv
      obtain ⟨rfl, rfl, rfl, rfl⟩ : 0 = r1 ∧ 0 = r2 ∧ 0 = r3 ∧ [] = r4 := by simpa using hv
      exact turn_no a b p A c d w hr0_3 hc0_3 hv1
    | true =>
      have hs := ((validI_iff a b p d).1 hv1).1
      obtain ⟨an, rfl⟩ := Int.eq_ofNat_of_zero_le (show 0 ≤ a by omega)
      obtain ⟨bn, rfl⟩ := Int.eq_ofNat_of_zero_le (show 0 ≤ b by omega)
      rw [hv1, if_pos rfl] at hv
      obtain ⟨rfl, rfl, rfl, rfl⟩ : (bn : Int) = r1 ∧ (an : Int) = r2 ∧ p = r3 ∧ imgD (turnPx an bn p d) bn an = r4 := by simpa using hv
      exact turn_yes an bn p A c d w hr0_3 hc0_3 hv1
  · rw [if_neg hk] at h; cases h

/- impl.mapImage: a copy of an image with each number replaced. -/

/-- what the row holds after i numbers -/
def mapped (f : Int → Int) (d : List Int) (i : Nat) : List Int := (d.take i).map f ++ d.drop i
theorem mapped_length (f : Int → Int) (d : List Int) (i : Nat) : (mapped f d i).length = d.length := by simp only [mapped, List.length_append, List.length_map, List.length_take, List.length_drop]; omega
theorem mapped_get (f : Int → Int) (d : List Int) (i : Nat) (h : i < d.length) : (mapped f d i).getD i 0 = d[i] := by
  unfold mapped
  rw [List.getD_eq_getElem?_getD, List.getElem?_append_right (by simp; omega)]
  simp [Nat.min_eq_left (Nat.le_of_lt h), List.getElem?_eq_getElem h]
theorem mapped_set (f : Int → Int) (d : List Int) (i : Nat) (h : i < d.length) : (mapped f d i).set i (f d[i]) = mapped f d (i + 1) := by
  unfold mapped
  rw [List.set_append_right _ _ (by simp; omega), List.take_succ_eq_append_getElem h, List.map_append, List.append_assoc]
  congr 1
  rw [List.length_map, List.length_take, Nat.min_eq_left (Nat.le_of_lt h), Nat.sub_self, List.drop_eq_getElem_cons h]
  rfl
theorem mapped_zero (f : Int → Int) (d : List Int) : mapped f d 0 = d := by simp [mapped]
theorem mapped_all (f : Int → Int) (d : List Int) : mapped f d d.length = d.map f := by simp [mapped]
theorem mapped_cell {W : World} {base gr cr : Nat} {ok : Nat → Prop} {f : Int → Int} {d : List Int} {i : Nat} (h : Kd.R (Kd.int .i64) 3 W base ok (.slice (some ⟨gr, 0, none⟩) d.length cr) (mapped f d i)) (hi : i < d.length) : W.cell? ⟨gr, i, none⟩ = some (.int .i64 (d[i]'hi)) ∧ W.frozen? ⟨gr, i, none⟩ = false := by
  have := Kd.R_celln 0 h (i : Int) (by omega) (by omega)
  unfold rdOf at this
  rw [Int.toNat_natCast, mapped_get f d i hi] at this
  exact this
theorem mapped_put {W : World} {base gr cr : Nat} {ok : Nat → Prop} {f : Int → Int} {d : List Int} {i : Nat} (h : Kd.R (Kd.int .i64) 3 W base ok (.slice (some ⟨gr, 0, none⟩) d.length cr) (mapped f d i)) (hi : i < d.length) : Kd.R (Kd.int .i64) 3 (W.setCell ⟨gr, i, none⟩ (.int .i64 (f (d[i]'hi)))) base ok (.slice (some ⟨gr, 0, none⟩) d.length cr) (mapped f d (i + 1)) := by
  have := Kd.R_putn h (i : Int) (f (d[i]'hi))
  rw [Int.toNat_natCast, mapped_set f d i hi] at this
  exact this
theorem mapped_below {W W' : World} {base gr cr : Nat} {ok : Nat → Prop} {f : Int → Int} {d : List Int} {i : Nat} (h : Kd.R (Kd.int .i64) 3 W base ok (.slice (some ⟨gr, 0, none⟩) d.length cr) (mapped f d i)) (hb : Below W.heap.size W W') : Kd.R (Kd.int .i64) 3 W' base ok (.slice (some ⟨gr, 0, none⟩) d.length cr) (mapped f d i) := Kd.R_below h hb

set_option maxHeartbeats 4000000 in
set_option maxRecDepth 100000 in
theorem map_calls (q : Nat) (f : Int → Int) (a b p : Int) (A : Option Addr) (c : Nat) (d : List Int) (hc : d.length ≤ c) (hl : d.length ≤ 1024) (hne : 0 < d.length) (w : World) (hr : Kd.C (Kd.int .i64) w A d.length d)
    (eg : ∀ args W, (callFunc q args).run Try.prog W = .ok (.enter q args) W)
    (hp : ∀ (W : World) (n : Int), n ∈ d → Calls Try.prog q #[.int .i64 n] W fun e W' => e = .returned (.int .i64 (f n)) ∧ Below W.heap.size W W') :
    Calls Try.prog 57 #[.agg #[.int .i64 a, .int .i64 b, .int .i64 p, .slice A d.length c], .func (.func q) #[] #[]] w fun e w' => ∃ v3_ : Value, e = .returned (.agg #[.int .i64 a, .int .i64 b, .int .i64 p, v3_]) ∧ Kd.R (Kd.int .i64) 3 w' w.heap.size (fun _ => True) v3_ (d.map f) ∧ Below w.heap.size w w' := by
  have HC := Aside0.mk hc
  have HR := Aside0.mk hr
  have HP := Aside0.mk hp
  have HNE := Aside0.mk hne
  have HB0 := Aside0.mk (Below.refl w.heap.size w)
  have HCP := Aside0.mk (show impl_copyImage.f a b p d = some (a, b, p, d) from by
    unfold impl_copyImage.f
    simp only [Option.bind_some]
    rw [if_pos (by simp; omega)]
    simp)
  have hu := Try.underlying28
  have hui := Try.underlying22
  clear hc hr hp hne
  go_enter Try.func57, Try.ntmps57
  go_wp2_with (first | ((with_reducible refine gate_dst (N := 2) rfl ?_); refine box_event ?hg (N := 2) ?hd (cs := #[.int .i64 a, .int .i64 b, .int .i64 p, .slice A d.length c]) (t := 28) ?hr ?_; (case hd => rfl); (case hg => rfl); (case hr => (go_simp; done)); intro g1 hg_ w1 hbox hb; have HB1 := Aside0.mk (below_then HB0.out HB0.out.size hb); have K1 := Aside0.mk hbox; have Gg1 := Aside0.mk (show w.heap.size ≤ g1 from by rw [hg_]; exact HB0.out.size); clear hbox hb hg_) | ((with_reducible refine gate_dst (N := 4) rfl ?_); refine box_event ?hg (N := 4) ?hd (cs := #[.int .i64 0, .int .i64 0, .int .i64 0, .slice none 0 0]) (t := 28) ?hr ?_; (case hd => rfl); (case hg => rfl); (case hr => (go_simp; done)); intro g2 hg_ w2 hbox hb; have HB2 := Aside0.mk (below_then HB1.out HB1.out.size hb); have K2 := Aside0.mk hbox; have Gg2 := Aside0.mk (show w.heap.size ≤ g2 from by rw [hg_]; exact HB1.out.size); have K1b := Aside0.mk (blk_below K1.out hb); have f0 : w2.cell? ⟨g1, 0, none⟩ = some (.int .i64 a) := (blk_cell K1b.out 0).trans rfl; have f1 : w2.cell? ⟨g1, 1, none⟩ = some (.int .i64 b) := (blk_cell K1b.out 1).trans rfl; have f2 : w2.cell? ⟨g1, 2, none⟩ = some (.int .i64 p) := (blk_cell K1b.out 2).trans rfl; have f3 : w2.cell? ⟨g1, 3, none⟩ = some (.slice A d.length c) := (blk_cell K1b.out 3).trans rfl; clear hbox hb hg_) | (go_at_call 44; (with_reducible refine (impl_copyImage.calls a b p A c d a b p d w2 (Kd.C_below HR.out HB2.out) HC.out HCP.out).mono ?_); rintro e w3 ⟨v3, rfl, hr3, hb3⟩; have HB3 := Aside0.mk (below_then HB2.out HB2.out.size hb3); have HR3 := Aside0.mk (Kd.R_lower hr3 HB2.out.size); have K2c := Aside0.mk (blk_below K2.out hb3); obtain ⟨gr, cr, e3, hgr, hgl, _⟩ := Kd.R_form hr3 HNE.out; subst e3; have GR := Aside0.mk hgr; have GL := Aside0.mk hgl; clear hr3 hb3 hgr hgl))
  have K2c := K2c.out
  have HB3 := HB3.out
  have HR3 := HR3.out
  have GR := GR.out
  have GL := GL.out
  have HNE := HNE.out
  have HP := HP.out
  have HGM := blk_new w3 (.cells #[.int .i64 a, .int .i64 b, .int .i64 p, .slice (some ⟨gr, 0, none⟩) d.length cr] 28 (0, 0))
  have SZ := blk_lt K2.out
  have GG2 := Gg2.out
  have SB1 := HB1.out.size
  go_loopw [13] (fun v13 W => ∃ i : Nat, v13 = .int .i64 i ∧ i ≤ d.length ∧ Kd.R (Kd.int .i64) 3 W w.heap.size (fun k => k = gr) (.slice (some ⟨gr, 0, none⟩) d.length cr) (mapped f d i) ∧ W.heap[w3.heap.size]? = some (.cells #[.int .i64 a, .int .i64 b, .int .i64 p, .slice (some ⟨gr, 0, none⟩) d.length cr] 28 (0, 0)) ∧ W.heap[g2]? = some (.cells #[.int .i64 0, .int .i64 0, .int .i64 0, .slice none 0 0] 28 (0, 0)) ∧ Aside0 (Below w.heap.size w W)) (fun v13 _ => d.length - (intOf v13).toNat)
  case atStart => exact ⟨0, rfl, by omega, by rw [mapped_zero]; exact Kd.R_alloc (Kd.R_mono (Kd.R_tight rfl HR3) (fun k hk => by simpa [Value.ownBlock] using hk)) _, HGM, blk_alloc K2c _, ⟨below_alloc HB3 _⟩⟩
  case round =>
    obtain ⟨i, rfl, hi, hr, hm, h2, hb⟩ := hrel
    by_cases hlt : i < d.length
    · have hdi : decide ((i : Int) < (d.length : Int)) = true := by simp; omega
      obtain ⟨hce, hcf⟩ := mapped_cell hr hlt
      have m0 := blk_cell hm 0; have m1 := blk_cell hm 1; have m2 := blk_cell hm 2; have m3 := blk_cell hm 3
      go_wp2
      go_region_with (first | (go_at_fn q; refine (HP _ (d[i]'hlt) (List.getElem_mem hlt)).mono ?_; rintro e w' ⟨rfl, hb2⟩; have HRn := Aside0.mk (mapped_below (W := wr.drew) (Kd.R_drew hr) hb2); have HMn := Aside0.mk (blk_below (w := wr.drew) hm hb2); have H2n := Aside0.mk (blk_below (w := wr.drew) h2 hb2); have HBn := Aside0.mk (below_then (below_drew hb.out) (below_drew hb.out).size hb2); have m3n := blk_cell HMn.out 3; obtain ⟨hcen, hcfn⟩ := mapped_cell HRn.out hlt; clear hb2))
      all_goals
        go_wp2
        go_roundw
        case rel => exact ⟨i + 1, by go_num, by omega, mapped_put HRn.out hlt, blk_far HMn.out (by simp; omega) _, blk_far H2n.out (by simp; omega) _, ⟨below_set HBn.out (by have := HB2.out.size; omega)⟩⟩
        case measure => simp [intOf]; omega
    · have hdi : decide ((i : Int) < (d.length : Int)) = false := by simp; omega
      have hil : i = d.length := by omega
      subst hil
      rw [mapped_all] at hr
      have m0 := blk_cell hm 0; have m1 := blk_cell hm 1; have m2 := blk_cell hm 2; have m3 := blk_cell hm 3
      have z0 := blk_cell h2 0; have z1 := blk_cell h2 1; have z2 := blk_cell h2 2; have z3 := blk_cell h2 3
      have y0 := blk_frozen h2 0; have y1 := blk_frozen h2 1; have y2 := blk_frozen h2 2; have y3 := blk_frozen h2 3
      go_wp2
      refine bodyPost_ret (results_cell_row rfl _ _ g2 28 #[.int .i64 a, .int .i64 b, .int .i64 p, .slice (some ⟨gr, 0, none⟩) d.length cr] (0, 0) _ rfl (by
        refine blk_put (cs := #[.int .i64 a, .int .i64 b, .int .i64 p, .slice none 0 0]) ?_ 3 _ rfl
        refine blk_put (cs := #[.int .i64 a, .int .i64 b, .int .i64 0, .slice none 0 0]) ?_ 2 _ rfl
        refine blk_put (cs := #[.int .i64 a, .int .i64 0, .int .i64 0, .slice none 0 0]) ?_ 1 _ rfl
        refine blk_put (cs := #[.int .i64 0, .int .i64 0, .int .i64 0, .slice none 0 0]) ?_ 0 _ rfl
        exact h2) hu rfl (by kernel_rfl)) rfl ?_
      exact ⟨_, rfl, Kd.R_mono (Kd.R_far (Kd.R_far (Kd.R_far (Kd.R_far hr (fun k hk => by subst hk; simp; omega) _) (fun k hk => by subst hk; simp; omega) _) (fun k hk => by subst hk; simp; omega) _) (fun k hk => by subst hk; simp; omega) _) (fun _ _ => trivial), below_set (below_set (below_set (below_set hb.out (by omega)) (by omega)) (by omega)) (by omega)⟩
end Go.Proofs.Ytgccpcnakkioiaa.Q

namespace Go.Proofs.Ytgccpcnakkioiaa.Q
open Go.RowKit Go.Proofs.YtgccpcnakkioiaaW.PrintWords Go.Proofs.YtgccpcnakkioiaaW.PrintLast Go.Proofs.YtgccpcnakkioiaaW.PrintMore
attribute [local go_sem] max2_int min2_int max_two min_two max_three min_three max_four min_four
set_option linter.unusedVariables false
set_option linter.unusedSimpArgs false
def impl_InvertImage_1.f (a0 : Int) : Option (Int) := some (wrap64 (255 - a0))
set_option maxHeartbeats 8000000 in
set_option maxRecDepth 100000 in
theorem impl_InvertImage_1.calls (a0 : Int) (r : Int) (w : World) (h : impl_InvertImage_1.f a0 = some r) :
    Calls Try.prog 58 #[.int .i64 a0] w fun e w' => e = .returned (.int .i64 r) ∧ Drawn0 w w' := by
  have H : (some (wrap64 (255 - a0))) = some r := h
  clear h
  obtain rfl := Option.some.inj H
  go_enter Try.func58, Try.ntmps58
  go_wp2
  go_ret
  exact ⟨by first | rfl | (simp; done) | (simp [*]; done), by repeat (first | exact Drawn0.refl _ | apply Drawn0.step)⟩

end Go.Proofs.Ytgccpcnakkioiaa.Q

/- impl.InvertImage: each number subtracted from 255. -/
namespace Go.Proofs.Ytgccpcnakkioiaa.Q
open Go.RowKit Go.Proofs.YtgccpcnakkioiaaW.PrintWords Go.Proofs.YtgccpcnakkioiaaW.PrintLast Go.Proofs.YtgccpcnakkioiaaW.PrintMore
attribute [local go_sem] max2_int min2_int max_two min_two max_three min_three max_four min_four
set_option linter.unusedVariables false
set_option linter.unusedSimpArgs false
open Go.Proofs.Ytgccpcnakkioiaa.Pure

def invD (d : List Int) : List Int := d.map (fun n => wrap64 (255 - n))
def impl_InvertImage.f (a b p : Int) (d : List Int) : Option (Int × Int × Int × List Int) := some (if validI a b p d = true then (a, b, p, invD d) else (0, 0, 0, []))

set_option maxHeartbeats 4000000 in
set_option maxRecDepth 100000 in
theorem impl_InvertImage.calls (a b p : Int) (A : Option Addr) (c : Nat) (d : List Int) (r1 r2 r3 : Int) (r4 : List Int) (w : World) (hr0_3 : Kd.C (Kd.int .i64) w A d.length d) (hc0_3 : d.length ≤ c) (h : impl_InvertImage.f a b p d = some (r1, r2, r3, r4)) :
    Calls Try.prog 27 #[.agg #[.int .i64 a, .int .i64 b, .int .i64 p, .slice A d.length c]] w fun e w' => ∃ v3_ : Value, e = .returned (.agg #[.int .i64 r1, .int .i64 r2, .int .i64 r3, v3_]) ∧ Kd.R (Kd.int .i64) 3 w' w.heap.size (fun _ => True) v3_ r4 ∧ Below w.heap.size w w' := by
  have hv := Option.some.inj h
  clear h
  have HC := Aside0.mk hc0_3
  have HR := Aside0.mk hr0_3
  have HB0 := Aside0.mk (Below.refl w.heap.size w)
  have E1 := Aside0.mk (impl_isImage_eq a b p d)
  have hu := Try.underlying28
  clear hr0_3 hc0_3
  cases hv1 : validI a b p d with
  | false =>
    rw [hv1, if_neg (by simp)] at hv
    obtain ⟨rfl, rfl, rfl, rfl⟩ : 0 = r1 ∧ 0 = r2 ∧ 0 = r3 ∧ [] = r4 := by simpa using hv
    rw [hv1] at E1
    clear hv1 hv
    go_enter Try.func27, Try.ntmps27
    go_wp2_with (first
      | ((with_reducible refine gate_dst (N := 1) rfl ?_); refine box_event ?hg (N := 1) ?hd (cs := #[.int .i64 a, .int .i64 b, .int .i64 p, .slice A d.length c]) (t := 28) ?hr ?_; (case hd => rfl); (case hg => rfl); (case hr => first | (go_simp; done) | (go_simp; rfl)); intro g1 hg_ w1 hbox hb; have HB1 := Aside0.mk (below_then HB0.out HB0.out.size hb); have K1 := Aside0.mk hbox; have Gg1 := Aside0.mk (show w.heap.size ≤ g1 from by rw [hg_]; exact HB0.out.size); have f0 : w1.cell? ⟨g1, 0, none⟩ = some (.int .i64 a) := (blk_cell K1.out 0).trans rfl; have f1 : w1.cell? ⟨g1, 1, none⟩ = some (.int .i64 b) := (blk_cell K1.out 1).trans rfl; have f2 : w1.cell? ⟨g1, 2, none⟩ = some (.int .i64 p) := (blk_cell K1.out 2).trans rfl; have f3 : w1.cell? ⟨g1, 3, none⟩ = some (.slice A d.length c) := (blk_cell K1.out 3).trans rfl; clear hbox hb hg_)
      | ((with_reducible refine gate_dst (N := 2) rfl ?_); refine box_event ?hg (N := 2) ?hd (cs := #[.int .i64 0, .int .i64 0, .int .i64 0, .slice none 0 0]) (t := 28) ?hr ?_; (case hd => rfl); (case hg => rfl); (case hr => first | (go_simp; done) | (go_simp; rfl)); intro g2 hg_ w2 hbox hb; have HB2 := Aside0.mk (below_then HB1.out HB1.out.size hb); have K2 := Aside0.mk hbox; have Gg2 := Aside0.mk (show w.heap.size ≤ g2 from by rw [hg_]; exact HB1.out.size); have K1b := Aside0.mk (blk_below K1.out hb); have f0 : w2.cell? ⟨g1, 0, none⟩ = some (.int .i64 a) := (blk_cell K1b.out 0).trans rfl; have f1 : w2.cell? ⟨g1, 1, none⟩ = some (.int .i64 b) := (blk_cell K1b.out 1).trans rfl; have f2 : w2.cell? ⟨g1, 2, none⟩ = some (.int .i64 p) := (blk_cell K1b.out 2).trans rfl; have f3 : w2.cell? ⟨g1, 3, none⟩ = some (.slice A d.length c) := (blk_cell K1b.out 3).trans rfl; clear hbox hb hg_)
      | (go_at_call 43; (with_reducible refine (impl_isImage.calls a b p A c d _ w2 (Kd.C_below HR.out HB2.out) HC.out E1.out).mono ?_); rintro e w3 ⟨rfl, hb3⟩; have HB3 := Aside0.mk (below_then HB2.out HB2.out.size hb3); have K1c := Aside0.mk (blk_below K1b.out hb3); have K2c := Aside0.mk (blk_below K2.out hb3); have e0 : w3.cell? ⟨g1, 0, none⟩ = some (.int .i64 a) := (blk_cell K1c.out 0).trans rfl; have e1 : w3.cell? ⟨g1, 1, none⟩ = some (.int .i64 b) := (blk_cell K1c.out 1).trans rfl; have e2 : w3.cell? ⟨g1, 2, none⟩ = some (.int .i64 p) := (blk_cell K1c.out 2).trans rfl; have e3 : w3.cell? ⟨g1, 3, none⟩ = some (.slice A d.length c) := (blk_cell K1c.out 3).trans rfl; have z0 := blk_cell K2c.out 0; have z1 := blk_cell K2c.out 1; have z2 := blk_cell K2c.out 2; have z3 := blk_cell K2c.out 3; have y0 := blk_frozen K2c.out 0; have y1 := blk_frozen K2c.out 1; have y2 := blk_frozen K2c.out 2; have y3 := blk_frozen K2c.out 3; clear hb3))
    refine bodyPost_ret (results_cell_row rfl _ _ g2 28 #[.int .i64 0, .int .i64 0, .int .i64 0, .slice none 0 0] (0, 0) _ rfl (by
      refine blk_put (cs := #[.int .i64 0, .int .i64 0, .int .i64 0, .slice none 0 0]) ?_ 3 _ rfl
      refine blk_put (cs := #[.int .i64 0, .int .i64 0, .int .i64 0, .slice none 0 0]) ?_ 2 _ rfl
      refine blk_put (cs := #[.int .i64 0, .int .i64 0, .int .i64 0, .slice none 0 0]) ?_ 1 _ rfl
      refine blk_put (cs := #[.int .i64 0, .int .i64 0, .int .i64 0, .slice none 0 0]) ?_ 0 _ rfl
      exact K2c.out) hu rfl (by kernel_rfl)) rfl ?_
    have G2 := Gg2.out
    exact ⟨_, rfl, Kd.R_nil _ _ _ _ _, below_set (below_set (below_set (below_set HB3.out (by omega)) (by omega)) (by omega)) (by omega)⟩
  | true =>
    obtain ⟨⟨hs, hl, _⟩⟩ : Nonempty ((1 ≤ a ∧ a ≤ 16 ∧ 1 ≤ b ∧ b ≤ 16 ∧ 1 ≤ p ∧ p ≤ 4) ∧ (d.length : Int) = a * b * p ∧ True) := ⟨((validI_iff a b p d).1 hv1).1, ((validI_iff a b p d).1 hv1).2.1, trivial⟩
    have hsp := shape_prod hs
    have hpos : 0 < a * b * p := Int.mul_pos (Int.mul_pos (by omega) (by omega)) (by omega)
    have HL := Aside0.mk (show d.length ≤ 1024 by omega)
    have HN := Aside0.mk (show 0 < d.length by omega)
    have EG := Aside0.mk (show ∀ args W, (callFunc 58 args).run Try.prog W = .ok (.enter 58 args) W from enters_of Try.func58 (by kernel_rfl) rfl)
    have EP := Aside0.mk (show ∀ (W : World) (n : Int), n ∈ d → Calls Try.prog 58 #[.int .i64 n] W fun e W' => e = .returned (.int .i64 (wrap64 (255 - n))) ∧ Below W.heap.size W W' from fun W n _ => (impl_InvertImage_1.calls n _ W rfl).mono (fun e W' h => ⟨h.1, h.2.below⟩))
    clear hl hsp hpos hs
    rw [hv1, if_pos rfl] at hv
    obtain ⟨rfl, rfl, rfl, rfl⟩ : a = r1 ∧ b = r2 ∧ p = r3 ∧ invD d = r4 := by simpa using hv
    rw [hv1] at E1
    clear hv1 hv
    go_enter Try.func27, Try.ntmps27
    go_wp2_with (first
      | ((with_reducible refine gate_dst (N := 1) rfl ?_); refine box_event ?hg (N := 1) ?hd (cs := #[.int .i64 a, .int .i64 b, .int .i64 p, .slice A d.length c]) (t := 28) ?hr ?_; (case hd => rfl); (case hg => rfl); (case hr => first | (go_simp; done) | (go_simp; rfl)); intro g1 hg_ w1 hbox hb; have HB1 := Aside0.mk (below_then HB0.out HB0.out.size hb); have K1 := Aside0.mk hbox; have Gg1 := Aside0.mk (show w.heap.size ≤ g1 from by rw [hg_]; exact HB0.out.size); have f0 : w1.cell? ⟨g1, 0, none⟩ = some (.int .i64 a) := (blk_cell K1.out 0).trans rfl; have f1 : w1.cell? ⟨g1, 1, none⟩ = some (.int .i64 b) := (blk_cell K1.out 1).trans rfl; have f2 : w1.cell? ⟨g1, 2, none⟩ = some (.int .i64 p) := (blk_cell K1.out 2).trans rfl; have f3 : w1.cell? ⟨g1, 3, none⟩ = some (.slice A d.length c) := (blk_cell K1.out 3).trans rfl; clear hbox hb hg_)
      | ((with_reducible refine gate_dst (N := 2) rfl ?_); refine box_event ?hg (N := 2) ?hd (cs := #[.int .i64 0, .int .i64 0, .int .i64 0, .slice none 0 0]) (t := 28) ?hr ?_; (case hd => rfl); (case hg => rfl); (case hr => first | (go_simp; done) | (go_simp; rfl)); intro g2 hg_ w2 hbox hb; have HB2 := Aside0.mk (below_then HB1.out HB1.out.size hb); have K2 := Aside0.mk hbox; have Gg2 := Aside0.mk (show w.heap.size ≤ g2 from by rw [hg_]; exact HB1.out.size); have K1b := Aside0.mk (blk_below K1.out hb); have f0 : w2.cell? ⟨g1, 0, none⟩ = some (.int .i64 a) := (blk_cell K1b.out 0).trans rfl; have f1 : w2.cell? ⟨g1, 1, none⟩ = some (.int .i64 b) := (blk_cell K1b.out 1).trans rfl; have f2 : w2.cell? ⟨g1, 2, none⟩ = some (.int .i64 p) := (blk_cell K1b.out 2).trans rfl; have f3 : w2.cell? ⟨g1, 3, none⟩ = some (.slice A d.length c) := (blk_cell K1b.out 3).trans rfl; clear hbox hb hg_)
      | (go_at_call 43; (with_reducible refine (impl_isImage.calls a b p A c d _ w2 (Kd.C_below HR.out HB2.out) HC.out E1.out).mono ?_); rintro e w3 ⟨rfl, hb3⟩; have HB3 := Aside0.mk (below_then HB2.out HB2.out.size hb3); have K1c := Aside0.mk (blk_below K1b.out hb3); have K2c := Aside0.mk (blk_below K2.out hb3); have e0 : w3.cell? ⟨g1, 0, none⟩ = some (.int .i64 a) := (blk_cell K1c.out 0).trans rfl; have e1 : w3.cell? ⟨g1, 1, none⟩ = some (.int .i64 b) := (blk_cell K1c.out 1).trans rfl; have e2 : w3.cell? ⟨g1, 2, none⟩ = some (.int .i64 p) := (blk_cell K1c.out 2).trans rfl; have e3 : w3.cell? ⟨g1, 3, none⟩ = some (.slice A d.length c) := (blk_cell K1c.out 3).trans rfl; have z0 := blk_cell K2c.out 0; have z1 := blk_cell K2c.out 1; have z2 := blk_cell K2c.out 2; have z3 := blk_cell K2c.out 3; have y0 := blk_frozen K2c.out 0; have y1 := blk_frozen K2c.out 1; have y2 := blk_frozen K2c.out 2; have y3 := blk_frozen K2c.out 3; clear hb3)
      | (go_at_call 57; (with_reducible refine (map_calls 58 (fun n => wrap64 (255 - n)) a b p A c d HC.out HL.out HN.out w3 (Kd.C_below HR.out HB3.out) EG.out EP.out).mono ?_); rintro e w4 ⟨v4, rfl, hr4, hb4⟩; have HB4 := Aside0.mk (below_then HB3.out HB3.out.size hb4); obtain ⟨gr, cr, e4, _, _, _⟩ := Kd.R_form hr4 (by rw [List.length_map]; exact HN.out); subst e4; simp only [List.length_map] at hr4; have HR4 := Aside0.mk (Kd.R_lower hr4 HB3.out.size); have K2d := Aside0.mk (blk_below K2c.out hb4); have x0 := blk_cell K2d.out 0; have x1 := blk_cell K2d.out 1; have x2 := blk_cell K2d.out 2; have x3 := blk_cell K2d.out 3; have u0 := blk_frozen K2d.out 0; have u1 := blk_frozen K2d.out 1; have u2 := blk_frozen K2d.out 2; have u3 := blk_frozen K2d.out 3; clear hr4 hb4))
    have G2 := Gg2.out
    have RR := Kd.R_types HR4.out K2d.out (by decide)
    refine bodyPost_ret (results_cell_row rfl _ _ g2 28 #[.int .i64 a, .int .i64 b, .int .i64 p, .slice (some ⟨gr, 0, none⟩) d.length cr] (0, 0) _ rfl (by
      refine blk_put (cs := #[.int .i64 a, .int .i64 b, .int .i64 p, .slice none 0 0]) ?_ 3 _ rfl
      refine blk_put (cs := #[.int .i64 a, .int .i64 b, .int .i64 0, .slice none 0 0]) ?_ 2 _ rfl
      refine blk_put (cs := #[.int .i64 a, .int .i64 0, .int .i64 0, .slice none 0 0]) ?_ 1 _ rfl
      refine blk_put (cs := #[.int .i64 0, .int .i64 0, .int .i64 0, .slice none 0 0]) ?_ 0 _ rfl
      exact K2d.out) hu rfl (by kernel_rfl)) rfl ?_
    exact ⟨_, rfl, Kd.R_mono (Kd.R_far (Kd.R_far (Kd.R_far (Kd.R_far RR (fun k hk => hk.2) _) (fun k hk => hk.2) _) (fun k hk => hk.2) _) (fun k hk => hk.2) _) (fun _ _ => trivial), below_set (below_set (below_set (below_set HB4.out (by omega)) (by omega)) (by omega)) (by omega)⟩

/- impl.CropImage's function value: a pixel of a part. -/

set_option maxHeartbeats 1600000 in
set_option maxRecDepth 100000 in
theorem crop1_calls (a b p : Int) (A : Option Addr) (c : Nat) (d : List Int) (hv : validI a b p d = true) (hc : d.length ≤ c) (X Y : Nat) (Wd Hg : Int) (x y : Nat) (hx : ((X + x : Nat) : Int) < a) (hy : ((Y + y : Nat) : Int) < b) (B : Nat) (w : World) (h1 : w.heap[B]? = some (.cells #[.int .i64 a, .int .i64 b, .int .i64 p, .slice A d.length c] 28 (0, 0))) (B2 : Nat) (h2 : w.heap[B2]? = some (.cells #[.int .i64 (X : Int), .int .i64 (Y : Int), .int .i64 Wd, .int .i64 Hg] 41 (0, 0))) (hr : Kd.C (Kd.int .i64) w A d.length d) :
    Calls Try.prog 60 (#[.int .i64 (x : Int), .int .i64 (y : Int)] ++ #[.pointer (some ⟨B, 0, none⟩), .pointer (some ⟨B2, 0, none⟩)]) w fun e w' => ∃ (A' : Option Addr) (c' : Nat), e = .returned (.slice A' (pxAt a p d (X + x) (Y + y)).length c') ∧ Kd.C (Kd.int .i64) w' A' (pxAt a p d (X + x) (Y + y)).length (pxAt a p d (X + x) (Y + y)) ∧ (pxAt a p d (X + x) (Y + y)).length ≤ c' ∧ Below w.heap.size w w' := by
  have hs := ((validI_iff a b p d).1 hv).1
  have k0 := (blk_cell h1 0).trans rfl; have k1 := (blk_cell h1 1).trans rfl; have k2 := (blk_cell h1 2).trans rfl; have k3 := (blk_cell h1 3).trans rfl
  have q0 := (blk_cell h2 0).trans rfl; have q1 := (blk_cell h2 1).trans rfl; have q2 := (blk_cell h2 2).trans rfl; have q3 := (blk_cell h2 3).trans rfl
  have hX : ((X + x : Nat) : Int) = (X : Int) + (x : Int) := by omega
  have hY : ((Y + y : Nat) : Int) = (Y : Int) + (y : Int) := by omega
  obtain ⟨A', c', hc', HA⟩ := at_px (x := X + x) (y := Y + y) A c hv hc hx hy
  have HA' := HA w hr
  rw [hX, hY] at HA'
  generalize pxAt a p d (X + x) (Y + y) = px at *
  replace HA' := Aside0.mk HA'
  clear HA hr h1 hv hc
  simp only [List.append_toArray, List.cons_append, List.nil_append]
  go_enter Try.func60, Try.ntmps60
  go_wp2_with (first | (go_at_call 55; (with_reducible refine (HA'.out.2).mono ?_); rintro e w2 ⟨rfl, hb⟩))
  go_ret
  exact ⟨A', c', rfl, Kd.C_below HA'.out.1 hb, hc', hb⟩
end Go.Proofs.Ytgccpcnakkioiaa.Q

namespace Go.Proofs.Ytgccpcnakkioiaa.Q
open Go.RowKit Go.Proofs.YtgccpcnakkioiaaW.PrintWords Go.Proofs.YtgccpcnakkioiaaW.PrintLast Go.Proofs.YtgccpcnakkioiaaW.PrintMore
attribute [local go_sem] max2_int min2_int max_two min_two max_three min_three max_four min_four
set_option linter.unusedVariables false
set_option linter.unusedSimpArgs false
def impl_isBoxOn.f (a0_0 : Int) (a0_1 : Int) (a0_2 : Int) (l0_3 : List Int) (a1_0 : Int) (a1_1 : Int) (a1_2 : Int) (a1_3 : Int) : Option Bool := if a1_0 ≥ 0 then (if a1_0 < a0_0 then (if a1_1 ≥ 0 then (if a1_1 < a0_1 then (if a1_2 ≥ 1 then (if a1_2 ≤ (wrap64 (a0_0 - a1_0)) then (if a1_3 ≥ 1 then (some (decide (a1_3 ≤ (wrap64 (a0_1 - a1_1))))) else (some false)) else (some false)) else (some false)) else (some false)) else (some false)) else (some false)) else (some false)
set_option maxHeartbeats 8000000 in
set_option maxRecDepth 100000 in
theorem impl_isBoxOn.calls (a0_0 : Int) (a0_1 : Int) (a0_2 : Int) (A0_3 : Option Addr) (c0_3 : Nat) (l0_3 : List Int) (a1_0 : Int) (a1_1 : Int) (a1_2 : Int) (a1_3 : Int) (r : Bool) (w : World) (hr0_3 : Kd.C (Kd.int .i64) w A0_3 l0_3.length l0_3) (hc0_3 : l0_3.length ≤ c0_3) (h : impl_isBoxOn.f a0_0 a0_1 a0_2 l0_3 a1_0 a1_1 a1_2 a1_3 = some r) :
    Calls Try.prog 59 #[.agg #[.int .i64 a0_0, .int .i64 a0_1, .int .i64 a0_2, .slice A0_3 l0_3.length c0_3], .agg #[.int .i64 a1_0, .int .i64 a1_1, .int .i64 a1_2, .int .i64 a1_3]] w fun e w' => e = .returned (.bool r) ∧ Below w.heap.size w w' := by
  have hu28 := Try.underlying28
  have hu41 := Try.underlying41
  have HR0_3 := Aside0.mk hr0_3
  have HC0_3 := Aside0.mk hc0_3
  clear hr0_3 hc0_3
  have HB := Aside0.mk (Below.refl w.heap.size w)
  have H : (if a1_0 ≥ 0 then (if a1_0 < a0_0 then (if a1_1 ≥ 0 then (if a1_1 < a0_1 then (if a1_2 ≥ 1 then (if a1_2 ≤ (wrap64 (a0_0 - a1_0)) then (if a1_3 ≥ 1 then (some (decide (a1_3 ≤ (wrap64 (a0_1 - a1_1))))) else (some false)) else (some false)) else (some false)) else (some false)) else (some false)) else (some false)) else (some false)) = some r := h
  clear h
  by_cases c3 : a1_0 ≥ 0
  · rw [if_pos c3] at H
    have c3b0 : decide (0 ≤ a1_0) = true := decide_eq_true c3
    clear c3
    by_cases c4 : a1_0 < a0_0
    · rw [if_pos c4] at H
      have c4b0 : decide (a1_0 < a0_0) = true := decide_eq_true c4
      clear c4
      by_cases c5 : a1_1 ≥ 0
      · rw [if_pos c5] at H
        have c5b0 : decide (0 ≤ a1_1) = true := decide_eq_true c5
        clear c5
        by_cases c6 : a1_1 < a0_1
        · rw [if_pos c6] at H
          have c6b0 : decide (a1_1 < a0_1) = true := decide_eq_true c6
          clear c6
          by_cases c7 : a1_2 ≥ 1
          · rw [if_pos c7] at H
            have c7b0 : decide (1 ≤ a1_2) = true := decide_eq_true c7
            clear c7
            by_cases c8 : a1_2 ≤ (wrap64 (a0_0 - a1_0))
            · rw [if_pos c8] at H
              have c8b0 : decide (a1_2 ≤ (wrap64 (a0_0 - a1_0))) = true := decide_eq_true c8
              clear c8
              by_cases c9 : a1_3 ≥ 1
              · rw [if_pos c9] at H
                have c9b0 : decide (1 ≤ a1_3) = true := decide_eq_true c9
                clear c9
                obtain rfl := Option.some.inj H
                go_enter Try.func59, Try.ntmps59
                go_wp2_with (first | ((with_reducible refine gate_dst (N := 2) rfl ?_); refine box_event ?hg (N := 2) ?hd (cs := #[.int .i64 a0_0, .int .i64 a0_1, .int .i64 a0_2, .slice A0_3 l0_3.length c0_3]) (t := 28) ?hr ?_; (case hd => rfl); (case hg => rfl); (case hr => (go_simp; done)); intro gb60001 hg w10 hbox hb; have n0_ := Aside0.mk (below_step HB.out hb); have n1_ := Aside0.mk (hbox); have n2_ := Aside0.mk ((by rw [hg]; exact (below_size HB.out) : w.heap.size ≤ gb60001)); have n3_ := Aside0.mk ((by rw [hg]; exact (below_size HB.out) : w.heap.size ≤ gb60001)); clear HB; have HB := n0_; have BK60001 := n1_; have GW60001 := n2_; have GE60001 := n3_; clear n0_ n1_ n2_ n3_; clear hb hbox hg) | ((with_reducible refine gate_dst (N := 3) rfl ?_); refine box_event ?hg (N := 3) ?hd (cs := #[.int .i64 a1_0, .int .i64 a1_1, .int .i64 a1_2, .int .i64 a1_3]) (t := 41) ?hr ?_; (case hd => rfl); (case hg => rfl); (case hr => (go_simp; done)); intro gb60002 hg w11 hbox hb; have n0_ := Aside0.mk (blk_below BK60001.out hb); have n1_ := Aside0.mk (below_step HB.out hb); have n2_ := Aside0.mk (hbox); have n3_ := Aside0.mk ((by rw [hg]; exact (below_size HB.out) : w.heap.size ≤ gb60002)); have n4_ := Aside0.mk ((by rw [hg]; exact (below_size HB.out) : w.heap.size ≤ gb60002)); have n5_ := Aside0.mk ((by rw [hg]; exact Nat.ne_of_lt (blk_lt BK60001.out) : gb60001 ≠ gb60002)); have n6_ := Aside0.mk ((by rw [hg]; exact Nat.ne_of_gt (blk_lt BK60001.out) : gb60002 ≠ gb60001)); clear BK60001; clear HB; have BK60001 := n0_; have HB := n1_; have BK60002 := n2_; have GW60002 := n3_; have GE60002 := n4_; have NB60001_60002 := n5_; have NB60002_60001 := n6_; clear n0_ n1_ n2_ n3_ n4_ n5_ n6_; clear hb hbox hg; have hnb12 := NB60002_60001.out; have hnc12 := NB60001_60002.out; have hcz13_0 : w11.cell? ⟨gb60002, 0, none⟩ = some (.int .i64 a1_0) := (blk_cell BK60002.out 0).trans rfl; have hcz13_1 : w11.cell? ⟨gb60002, 1, none⟩ = some (.int .i64 a1_1) := (blk_cell BK60002.out 1).trans rfl; have hcz13_2 : w11.cell? ⟨gb60002, 2, none⟩ = some (.int .i64 a1_2) := (blk_cell BK60002.out 2).trans rfl; have hcz13_3 : w11.cell? ⟨gb60002, 3, none⟩ = some (.int .i64 a1_3) := (blk_cell BK60002.out 3).trans rfl; have hfz13_0 := blk_frozen BK60002.out 0; have hfz13_1 := blk_frozen BK60002.out 1; have hfz13_2 := blk_frozen BK60002.out 2; have hfz13_3 := blk_frozen BK60002.out 3; have hcz14_0 : w11.cell? ⟨gb60001, 0, none⟩ = some (.int .i64 a0_0) := (blk_cell BK60001.out 0).trans rfl; have hcz14_1 : w11.cell? ⟨gb60001, 1, none⟩ = some (.int .i64 a0_1) := (blk_cell BK60001.out 1).trans rfl; have hcz14_2 : w11.cell? ⟨gb60001, 2, none⟩ = some (.int .i64 a0_2) := (blk_cell BK60001.out 2).trans rfl; have hcz14_3 : w11.cell? ⟨gb60001, 3, none⟩ = some (.slice A0_3 l0_3.length c0_3) := (blk_cell BK60001.out 3).trans rfl; have hfz14_0 := blk_frozen BK60001.out 0; have hfz14_1 := blk_frozen BK60001.out 1; have hfz14_2 := blk_frozen BK60001.out 2; have hfz14_3 := blk_frozen BK60001.out 3))
                go_ret
                exact ⟨by rfl, by exact HB.out⟩
              · rw [if_neg c9] at H
                have c9b0 : decide (1 ≤ a1_3) = false := decide_eq_false c9
                clear c9
                obtain rfl := Option.some.inj H
                go_enter Try.func59, Try.ntmps59
                go_wp2_with (first | ((with_reducible refine gate_dst (N := 2) rfl ?_); refine box_event ?hg (N := 2) ?hd (cs := #[.int .i64 a0_0, .int .i64 a0_1, .int .i64 a0_2, .slice A0_3 l0_3.length c0_3]) (t := 28) ?hr ?_; (case hd => rfl); (case hg => rfl); (case hr => (go_simp; done)); intro gb60001 hg w15 hbox hb; have n0_ := Aside0.mk (below_step HB.out hb); have n1_ := Aside0.mk (hbox); have n2_ := Aside0.mk ((by rw [hg]; exact (below_size HB.out) : w.heap.size ≤ gb60001)); have n3_ := Aside0.mk ((by rw [hg]; exact (below_size HB.out) : w.heap.size ≤ gb60001)); clear HB; have HB := n0_; have BK60001 := n1_; have GW60001 := n2_; have GE60001 := n3_; clear n0_ n1_ n2_ n3_; clear hb hbox hg) | ((with_reducible refine gate_dst (N := 3) rfl ?_); refine box_event ?hg (N := 3) ?hd (cs := #[.int .i64 a1_0, .int .i64 a1_1, .int .i64 a1_2, .int .i64 a1_3]) (t := 41) ?hr ?_; (case hd => rfl); (case hg => rfl); (case hr => (go_simp; done)); intro gb60002 hg w16 hbox hb; have n0_ := Aside0.mk (blk_below BK60001.out hb); have n1_ := Aside0.mk (below_step HB.out hb); have n2_ := Aside0.mk (hbox); have n3_ := Aside0.mk ((by rw [hg]; exact (below_size HB.out) : w.heap.size ≤ gb60002)); have n4_ := Aside0.mk ((by rw [hg]; exact (below_size HB.out) : w.heap.size ≤ gb60002)); have n5_ := Aside0.mk ((by rw [hg]; exact Nat.ne_of_lt (blk_lt BK60001.out) : gb60001 ≠ gb60002)); have n6_ := Aside0.mk ((by rw [hg]; exact Nat.ne_of_gt (blk_lt BK60001.out) : gb60002 ≠ gb60001)); clear BK60001; clear HB; have BK60001 := n0_; have HB := n1_; have BK60002 := n2_; have GW60002 := n3_; have GE60002 := n4_; have NB60001_60002 := n5_; have NB60002_60001 := n6_; clear n0_ n1_ n2_ n3_ n4_ n5_ n6_; clear hb hbox hg; have hnb17 := NB60002_60001.out; have hnc17 := NB60001_60002.out; have hcz18_0 : w16.cell? ⟨gb60002, 0, none⟩ = some (.int .i64 a1_0) := (blk_cell BK60002.out 0).trans rfl; have hcz18_1 : w16.cell? ⟨gb60002, 1, none⟩ = some (.int .i64 a1_1) := (blk_cell BK60002.out 1).trans rfl; have hcz18_2 : w16.cell? ⟨gb60002, 2, none⟩ = some (.int .i64 a1_2) := (blk_cell BK60002.out 2).trans rfl; have hcz18_3 : w16.cell? ⟨gb60002, 3, none⟩ = some (.int .i64 a1_3) := (blk_cell BK60002.out 3).trans rfl; have hfz18_0 := blk_frozen BK60002.out 0; have hfz18_1 := blk_frozen BK60002.out 1; have hfz18_2 := blk_frozen BK60002.out 2; have hfz18_3 := blk_frozen BK60002.out 3; have hcz19_0 : w16.cell? ⟨gb60001, 0, none⟩ = some (.int .i64 a0_0) := (blk_cell BK60001.out 0).trans rfl; have hcz19_1 : w16.cell? ⟨gb60001, 1, none⟩ = some (.int .i64 a0_1) := (blk_cell BK60001.out 1).trans rfl; have hcz19_2 : w16.cell? ⟨gb60001, 2, none⟩ = some (.int .i64 a0_2) := (blk_cell BK60001.out 2).trans rfl; have hcz19_3 : w16.cell? ⟨gb60001, 3, none⟩ = some (.slice A0_3 l0_3.length c0_3) := (blk_cell BK60001.out 3).trans rfl; have hfz19_0 := blk_frozen BK60001.out 0; have hfz19_1 := blk_frozen BK60001.out 1; have hfz19_2 := blk_frozen BK60001.out 2; have hfz19_3 := blk_frozen BK60001.out 3))
                go_ret
                exact ⟨by rfl, by exact HB.out⟩
            · rw [if_neg c8] at H
              have c8b0 : decide (a1_2 ≤ (wrap64 (a0_0 - a1_0))) = false := decide_eq_false c8
              clear c8
              obtain rfl := Option.some.inj H
              go_enter Try.func59, Try.ntmps59
              go_wp2_with (first | ((with_reducible refine gate_dst (N := 2) rfl ?_); refine box_event ?hg (N := 2) ?hd (cs := #[.int .i64 a0_0, .int .i64 a0_1, .int .i64 a0_2, .slice A0_3 l0_3.length c0_3]) (t := 28) ?hr ?_; (case hd => rfl); (case hg => rfl); (case hr => (go_simp; done)); intro gb60001 hg w20 hbox hb; have n0_ := Aside0.mk (below_step HB.out hb); have n1_ := Aside0.mk (hbox); have n2_ := Aside0.mk ((by rw [hg]; exact (below_size HB.out) : w.heap.size ≤ gb60001)); have n3_ := Aside0.mk ((by rw [hg]; exact (below_size HB.out) : w.heap.size ≤ gb60001)); clear HB; have HB := n0_; have BK60001 := n1_; have GW60001 := n2_; have GE60001 := n3_; clear n0_ n1_ n2_ n3_; clear hb hbox hg) | ((with_reducible refine gate_dst (N := 3) rfl ?_); refine box_event ?hg (N := 3) ?hd (cs := #[.int .i64 a1_0, .int .i64 a1_1, .int .i64 a1_2, .int .i64 a1_3]) (t := 41) ?hr ?_; (case hd => rfl); (case hg => rfl); (case hr => (go_simp; done)); intro gb60002 hg w21 hbox hb; have n0_ := Aside0.mk (blk_below BK60001.out hb); have n1_ := Aside0.mk (below_step HB.out hb); have n2_ := Aside0.mk (hbox); have n3_ := Aside0.mk ((by rw [hg]; exact (below_size HB.out) : w.heap.size ≤ gb60002)); have n4_ := Aside0.mk ((by rw [hg]; exact (below_size HB.out) : w.heap.size ≤ gb60002)); have n5_ := Aside0.mk ((by rw [hg]; exact Nat.ne_of_lt (blk_lt BK60001.out) : gb60001 ≠ gb60002)); have n6_ := Aside0.mk ((by rw [hg]; exact Nat.ne_of_gt (blk_lt BK60001.out) : gb60002 ≠ gb60001)); clear BK60001; clear HB; have BK60001 := n0_; have HB := n1_; have BK60002 := n2_; have GW60002 := n3_; have GE60002 := n4_; have NB60001_60002 := n5_; have NB60002_60001 := n6_; clear n0_ n1_ n2_ n3_ n4_ n5_ n6_; clear hb hbox hg; have hnb22 := NB60002_60001.out; have hnc22 := NB60001_60002.out; have hcz23_0 : w21.cell? ⟨gb60002, 0, none⟩ = some (.int .i64 a1_0) := (blk_cell BK60002.out 0).trans rfl; have hcz23_1 : w21.cell? ⟨gb60002, 1, none⟩ = some (.int .i64 a1_1) := (blk_cell BK60002.out 1).trans rfl; have hcz23_2 : w21.cell? ⟨gb60002, 2, none⟩ = some (.int .i64 a1_2) := (blk_cell BK60002.out 2).trans rfl; have hcz23_3 : w21.cell? ⟨gb60002, 3, none⟩ = some (.int .i64 a1_3) := (blk_cell BK60002.out 3).trans rfl; have hfz23_0 := blk_frozen BK60002.out 0; have hfz23_1 := blk_frozen BK60002.out 1; have hfz23_2 := blk_frozen BK60002.out 2; have hfz23_3 := blk_frozen BK60002.out 3; have hcz24_0 : w21.cell? ⟨gb60001, 0, none⟩ = some (.int .i64 a0_0) := (blk_cell BK60001.out 0).trans rfl; have hcz24_1 : w21.cell? ⟨gb60001, 1, none⟩ = some (.int .i64 a0_1) := (blk_cell BK60001.out 1).trans rfl; have hcz24_2 : w21.cell? ⟨gb60001, 2, none⟩ = some (.int .i64 a0_2) := (blk_cell BK60001.out 2).trans rfl; have hcz24_3 : w21.cell? ⟨gb60001, 3, none⟩ = some (.slice A0_3 l0_3.length c0_3) := (blk_cell BK60001.out 3).trans rfl; have hfz24_0 := blk_frozen BK60001.out 0; have hfz24_1 := blk_frozen BK60001.out 1; have hfz24_2 := blk_frozen BK60001.out 2; have hfz24_3 := blk_frozen BK60001.out 3))
              go_ret
              exact ⟨by rfl, by exact HB.out⟩
          · rw [if_neg c7] at H
            have c7b0 : decide (1 ≤ a1_2) = false := decide_eq_false c7
            clear c7
            obtain rfl := Option.some.inj H
            go_enter Try.func59, Try.ntmps59
            go_wp2_with (first | ((with_reducible refine gate_dst (N := 2) rfl ?_); refine box_event ?hg (N := 2) ?hd (cs := #[.int .i64 a0_0, .int .i64 a0_1, .int .i64 a0_2, .slice A0_3 l0_3.length c0_3]) (t := 28) ?hr ?_; (case hd => rfl); (case hg => rfl); (case hr => (go_simp; done)); intro gb60001 hg w25 hbox hb; have n0_ := Aside0.mk (below_step HB.out hb); have n1_ := Aside0.mk (hbox); have n2_ := Aside0.mk ((by rw [hg]; exact (below_size HB.out) : w.heap.size ≤ gb60001)); have n3_ := Aside0.mk ((by rw [hg]; exact (below_size HB.out) : w.heap.size ≤ gb60001)); clear HB; have HB := n0_; have BK60001 := n1_; have GW60001 := n2_; have GE60001 := n3_; clear n0_ n1_ n2_ n3_; clear hb hbox hg) | ((with_reducible refine gate_dst (N := 3) rfl ?_); refine box_event ?hg (N := 3) ?hd (cs := #[.int .i64 a1_0, .int .i64 a1_1, .int .i64 a1_2, .int .i64 a1_3]) (t := 41) ?hr ?_; (case hd => rfl); (case hg => rfl); (case hr => (go_simp; done)); intro gb60002 hg w26 hbox hb; have n0_ := Aside0.mk (blk_below BK60001.out hb); have n1_ := Aside0.mk (below_step HB.out hb); have n2_ := Aside0.mk (hbox); have n3_ := Aside0.mk ((by rw [hg]; exact (below_size HB.out) : w.heap.size ≤ gb60002)); have n4_ := Aside0.mk ((by rw [hg]; exact (below_size HB.out) : w.heap.size ≤ gb60002)); have n5_ := Aside0.mk ((by rw [hg]; exact Nat.ne_of_lt (blk_lt BK60001.out) : gb60001 ≠ gb60002)); have n6_ := Aside0.mk ((by rw [hg]; exact Nat.ne_of_gt (blk_lt BK60001.out) : gb60002 ≠ gb60001)); clear BK60001; clear HB; have BK60001 := n0_; have HB := n1_; have BK60002 := n2_; have GW60002 := n3_; have GE60002 := n4_; have NB60001_60002 := n5_; have NB60002_60001 := n6_; clear n0_ n1_ n2_ n3_ n4_ n5_ n6_; clear hb hbox hg; have hnb27 := NB60002_60001.out; have hnc27 := NB60001_60002.out; have hcz28_0 : w26.cell? ⟨gb60002, 0, none⟩ = some (.int .i64 a1_0) := (blk_cell BK60002.out 0).trans rfl; have hcz28_1 : w26.cell? ⟨gb60002, 1, none⟩ = some (.int .i64 a1_1) := (blk_cell BK60002.out 1).trans rfl; have hcz28_2 : w26.cell? ⟨gb60002, 2, none⟩ = some (.int .i64 a1_2) := (blk_cell BK60002.out 2).trans rfl; have hcz28_3 : w26.cell? ⟨gb60002, 3, none⟩ = some (.int .i64 a1_3) := (blk_cell BK60002.out 3).trans rfl; have hfz28_0 := blk_frozen BK60002.out 0; have hfz28_1 := blk_frozen BK60002.out 1; have hfz28_2 := blk_frozen BK60002.out 2; have hfz28_3 := blk_frozen BK60002.out 3; have hcz29_0 : w26.cell? ⟨gb60001, 0, none⟩ = some (.int .i64 a0_0) := (blk_cell BK60001.out 0).trans rfl; have hcz29_1 : w26.cell? ⟨gb60001, 1, none⟩ = some (.int .i64 a0_1) := (blk_cell BK60001.out 1).trans rfl; have hcz29_2 : w26.cell? ⟨gb60001, 2, none⟩ = some (.int .i64 a0_2) := (blk_cell BK60001.out 2).trans rfl; have hcz29_3 : w26.cell? ⟨gb60001, 3, none⟩ = some (.slice A0_3 l0_3.length c0_3) := (blk_cell BK60001.out 3).trans rfl; have hfz29_0 := blk_frozen BK60001.out 0; have hfz29_1 := blk_frozen BK60001.out 1; have hfz29_2 := blk_frozen BK60001.out 2; have hfz29_3 := blk_frozen BK60001.out 3))
            go_ret
            exact ⟨by rfl, by exact HB.out⟩
        · rw [if_neg c6] at H
          have c6b0 : decide (a1_1 < a0_1) = false := decide_eq_false c6
          clear c6
          obtain rfl := Option.some.inj H
          go_enter Try.func59, Try.ntmps59
          go_wp2_with (first | ((with_reducible refine gate_dst (N := 2) rfl ?_); refine box_event ?hg (N := 2) ?hd (cs := #[.int .i64 a0_0, .int .i64 a0_1, .int .i64 a0_2, .slice A0_3 l0_3.length c0_3]) (t := 28) ?hr ?_; (case hd => rfl); (case hg => rfl); (case hr => (go_simp; done)); intro gb60001 hg w30 hbox hb; have n0_ := Aside0.mk (below_step HB.out hb); have n1_ := Aside0.mk (hbox); have n2_ := Aside0.mk ((by rw [hg]; exact (below_size HB.out) : w.heap.size ≤ gb60001)); have n3_ := Aside0.mk ((by rw [hg]; exact (below_size HB.out) : w.heap.size ≤ gb60001)); clear HB; have HB := n0_; have BK60001 := n1_; have GW60001 := n2_; have GE60001 := n3_; clear n0_ n1_ n2_ n3_; clear hb hbox hg) | ((with_reducible refine gate_dst (N := 3) rfl ?_); refine box_event ?hg (N := 3) ?hd (cs := #[.int .i64 a1_0, .int .i64 a1_1, .int .i64 a1_2, .int .i64 a1_3]) (t := 41) ?hr ?_; (case hd => rfl); (case hg => rfl); (case hr => (go_simp; done)); intro gb60002 hg w31 hbox hb; have n0_ := Aside0.mk (blk_below BK60001.out hb); have n1_ := Aside0.mk (below_step HB.out hb); have n2_ := Aside0.mk (hbox); have n3_ := Aside0.mk ((by rw [hg]; exact (below_size HB.out) : w.heap.size ≤ gb60002)); have n4_ := Aside0.mk ((by rw [hg]; exact (below_size HB.out) : w.heap.size ≤ gb60002)); have n5_ := Aside0.mk ((by rw [hg]; exact Nat.ne_of_lt (blk_lt BK60001.out) : gb60001 ≠ gb60002)); have n6_ := Aside0.mk ((by rw [hg]; exact Nat.ne_of_gt (blk_lt BK60001.out) : gb60002 ≠ gb60001)); clear BK60001; clear HB; have BK60001 := n0_; have HB := n1_; have BK60002 := n2_; have GW60002 := n3_; have GE60002 := n4_; have NB60001_60002 := n5_; have NB60002_60001 := n6_; clear n0_ n1_ n2_ n3_ n4_ n5_ n6_; clear hb hbox hg; have hnb32 := NB60002_60001.out; have hnc32 := NB60001_60002.out; have hcz33_0 : w31.cell? ⟨gb60002, 0, none⟩ = some (.int .i64 a1_0) := (blk_cell BK60002.out 0).trans rfl; have hcz33_1 : w31.cell? ⟨gb60002, 1, none⟩ = some (.int .i64 a1_1) := (blk_cell BK60002.out 1).trans rfl; have hcz33_2 : w31.cell? ⟨gb60002, 2, none⟩ = some (.int .i64 a1_2) := (blk_cell BK60002.out 2).trans rfl; have hcz33_3 : w31.cell? ⟨gb60002, 3, none⟩ = some (.int .i64 a1_3) := (blk_cell BK60002.out 3).trans rfl; have hfz33_0 := blk_frozen BK60002.out 0; have hfz33_1 := blk_frozen BK60002.out 1; have hfz33_2 := blk_frozen BK60002.out 2; have hfz33_3 := blk_frozen BK60002.out 3; have hcz34_0 : w31.cell? ⟨gb60001, 0, none⟩ = some (.int .i64 a0_0) := (blk_cell BK60001.out 0).trans rfl; have hcz34_1 : w31.cell? ⟨gb60001, 1, none⟩ = some (.int .i64 a0_1) := (blk_cell BK60001.out 1).trans rfl; have hcz34_2 : w31.cell? ⟨gb60001, 2, none⟩ = some (.int .i64 a0_2) := (blk_cell BK60001.out 2).trans rfl; have hcz34_3 : w31.cell? ⟨gb60001, 3, none⟩ = some (.slice A0_3 l0_3.length c0_3) := (blk_cell BK60001.out 3).trans rfl; have hfz34_0 := blk_frozen BK60001.out 0; have hfz34_1 := blk_frozen BK60001.out 1; have hfz34_2 := blk_frozen BK60001.out 2; have hfz34_3 := blk_frozen BK60001.out 3))
          go_ret
          exact ⟨by rfl, by exact HB.out⟩
      · rw [if_neg c5] at H
        have c5b0 : decide (0 ≤ a1_1) = false := decide_eq_false c5
        clear c5
        obtain rfl := Option.some.inj H
        go_enter Try.func59, Try.ntmps59
        go_wp2_with (first | ((with_reducible refine gate_dst (N := 2) rfl ?_); refine box_event ?hg (N := 2) ?hd (cs := #[.int .i64 a0_0, .int .i64 a0_1, .int .i64 a0_2, .slice A0_3 l0_3.length c0_3]) (t := 28) ?hr ?_; (case hd => rfl); (case hg => rfl); (case hr => (go_simp; done)); intro gb60001 hg w35 hbox hb; have n0_ := Aside0.mk (below_step HB.out hb); have n1_ := Aside0.mk (hbox); have n2_ := Aside0.mk ((by rw [hg]; exact (below_size HB.out) : w.heap.size ≤ gb60001)); have n3_ := Aside0.mk ((by rw [hg]; exact (below_size HB.out) : w.heap.size ≤ gb60001)); clear HB; have HB := n0_; have BK60001 := n1_; have GW60001 := n2_; have GE60001 := n3_; clear n0_ n1_ n2_ n3_; clear hb hbox hg) | ((with_reducible refine gate_dst (N := 3) rfl ?_); refine box_event ?hg (N := 3) ?hd (cs := #[.int .i64 a1_0, .int .i64 a1_1, .int .i64 a1_2, .int .i64 a1_3]) (t := 41) ?hr ?_; (case hd => rfl); (case hg => rfl); (case hr => (go_simp; done)); intro gb60002 hg w36 hbox hb; have n0_ := Aside0.mk (blk_below BK60001.out hb); have n1_ := Aside0.mk (below_step HB.out hb); have n2_ := Aside0.mk (hbox); have n3_ := Aside0.mk ((by rw [hg]; exact (below_size HB.out) : w.heap.size ≤ gb60002)); have n4_ := Aside0.mk ((by rw [hg]; exact (below_size HB.out) : w.heap.size ≤ gb60002)); have n5_ := Aside0.mk ((by rw [hg]; exact Nat.ne_of_lt (blk_lt BK60001.out) : gb60001 ≠ gb60002)); have n6_ := Aside0.mk ((by rw [hg]; exact Nat.ne_of_gt (blk_lt BK60001.out) : gb60002 ≠ gb60001)); clear BK60001; clear HB; have BK60001 := n0_; have HB := n1_; have BK60002 := n2_; have GW60002 := n3_; have GE60002 := n4_; have NB60001_60002 := n5_; have NB60002_60001 := n6_; clear n0_ n1_ n2_ n3_ n4_ n5_ n6_; clear hb hbox hg; have hnb37 := NB60002_60001.out; have hnc37 := NB60001_60002.out; have hcz38_0 : w36.cell? ⟨gb60002, 0, none⟩ = some (.int .i64 a1_0) := (blk_cell BK60002.out 0).trans rfl; have hcz38_1 : w36.cell? ⟨gb60002, 1, none⟩ = some (.int .i64 a1_1) := (blk_cell BK60002.out 1).trans rfl; have hcz38_2 : w36.cell? ⟨gb60002, 2, none⟩ = some (.int .i64 a1_2) := (blk_cell BK60002.out 2).trans rfl; have hcz38_3 : w36.cell? ⟨gb60002, 3, none⟩ = some (.int .i64 a1_3) := (blk_cell BK60002.out 3).trans rfl; have hfz38_0 := blk_frozen BK60002.out 0; have hfz38_1 := blk_frozen BK60002.out 1; have hfz38_2 := blk_frozen BK60002.out 2; have hfz38_3 := blk_frozen BK60002.out 3; have hcz39_0 : w36.cell? ⟨gb60001, 0, none⟩ = some (.int .i64 a0_0) := (blk_cell BK60001.out 0).trans rfl; have hcz39_1 : w36.cell? ⟨gb60001, 1, none⟩ = some (.int .i64 a0_1) := (blk_cell BK60001.out 1).trans rfl; have hcz39_2 : w36.cell? ⟨gb60001, 2, none⟩ = some (.int .i64 a0_2) := (blk_cell BK60001.out 2).trans rfl; have hcz39_3 : w36.cell? ⟨gb60001, 3, none⟩ = some (.slice A0_3 l0_3.length c0_3) := (blk_cell BK60001.out 3).trans rfl; have hfz39_0 := blk_frozen BK60001.out 0; have hfz39_1 := blk_frozen BK60001.out 1; have hfz39_2 := blk_frozen BK60001.out 2; have hfz39_3 := blk_frozen BK60001.out 3))
        go_ret
        exact ⟨by rfl, by exact HB.out⟩
    · rw [if_neg c4] at H
      have c4b0 : decide (a1_0 < a0_0) = false := decide_eq_false c4
      clear c4
      obtain rfl := Option.some.inj H
      go_enter Try.func59, Try.ntmps59
      go_wp2_with (first | ((with_reducible refine gate_dst (N := 2) rfl ?_); refine box_event ?hg (N := 2) ?hd (cs := #[.int .i64 a0_0, .int .i64 a0_1, .int .i64 a0_2, .slice A0_3 l0_3.length c0_3]) (t := 28) ?hr ?_; (case hd => rfl); (case hg => rfl); (case hr => (go_simp; done)); intro gb60001 hg w40 hbox hb; have n0_ := Aside0.mk (below_step HB.out hb); have n1_ := Aside0.mk (hbox); have n2_ := Aside0.mk ((by rw [hg]; exact (below_size HB.out) : w.heap.size ≤ gb60001)); have n3_ := Aside0.mk ((by rw [hg]; exact (below_size HB.out) : w.heap.size ≤ gb60001)); clear HB; have HB := n0_; have BK60001 := n1_; have GW60001 := n2_; have GE60001 := n3_; clear n0_ n1_ n2_ n3_; clear hb hbox hg) | ((with_reducible refine gate_dst (N := 3) rfl ?_); refine box_event ?hg (N := 3) ?hd (cs := #[.int .i64 a1_0, .int .i64 a1_1, .int .i64 a1_2, .int .i64 a1_3]) (t := 41) ?hr ?_; (case hd => rfl); (case hg => rfl); (case hr => (go_simp; done)); intro gb60002 hg w41 hbox hb; have n0_ := Aside0.mk (blk_below BK60001.out hb); have n1_ := Aside0.mk (below_step HB.out hb); have n2_ := Aside0.mk (hbox); have n3_ := Aside0.mk ((by rw [hg]; exact (below_size HB.out) : w.heap.size ≤ gb60002)); have n4_ := Aside0.mk ((by rw [hg]; exact (below_size HB.out) : w.heap.size ≤ gb60002)); have n5_ := Aside0.mk ((by rw [hg]; exact Nat.ne_of_lt (blk_lt BK60001.out) : gb60001 ≠ gb60002)); have n6_ := Aside0.mk ((by rw [hg]; exact Nat.ne_of_gt (blk_lt BK60001.out) : gb60002 ≠ gb60001)); clear BK60001; clear HB; have BK60001 := n0_; have HB := n1_; have BK60002 := n2_; have GW60002 := n3_; have GE60002 := n4_; have NB60001_60002 := n5_; have NB60002_60001 := n6_; clear n0_ n1_ n2_ n3_ n4_ n5_ n6_; clear hb hbox hg; have hnb42 := NB60002_60001.out; have hnc42 := NB60001_60002.out; have hcz43_0 : w41.cell? ⟨gb60002, 0, none⟩ = some (.int .i64 a1_0) := (blk_cell BK60002.out 0).trans rfl; have hcz43_1 : w41.cell? ⟨gb60002, 1, none⟩ = some (.int .i64 a1_1) := (blk_cell BK60002.out 1).trans rfl; have hcz43_2 : w41.cell? ⟨gb60002, 2, none⟩ = some (.int .i64 a1_2) := (blk_cell BK60002.out 2).trans rfl; have hcz43_3 : w41.cell? ⟨gb60002, 3, none⟩ = some (.int .i64 a1_3) := (blk_cell BK60002.out 3).trans rfl; have hfz43_0 := blk_frozen BK60002.out 0; have hfz43_1 := blk_frozen BK60002.out 1; have hfz43_2 := blk_frozen BK60002.out 2; have hfz43_3 := blk_frozen BK60002.out 3; have hcz44_0 : w41.cell? ⟨gb60001, 0, none⟩ = some (.int .i64 a0_0) := (blk_cell BK60001.out 0).trans rfl; have hcz44_1 : w41.cell? ⟨gb60001, 1, none⟩ = some (.int .i64 a0_1) := (blk_cell BK60001.out 1).trans rfl; have hcz44_2 : w41.cell? ⟨gb60001, 2, none⟩ = some (.int .i64 a0_2) := (blk_cell BK60001.out 2).trans rfl; have hcz44_3 : w41.cell? ⟨gb60001, 3, none⟩ = some (.slice A0_3 l0_3.length c0_3) := (blk_cell BK60001.out 3).trans rfl; have hfz44_0 := blk_frozen BK60001.out 0; have hfz44_1 := blk_frozen BK60001.out 1; have hfz44_2 := blk_frozen BK60001.out 2; have hfz44_3 := blk_frozen BK60001.out 3))
      go_ret
      exact ⟨by rfl, by exact HB.out⟩
  · rw [if_neg c3] at H
    have c3b0 : decide (0 ≤ a1_0) = false := decide_eq_false c3
    clear c3
    obtain rfl := Option.some.inj H
    go_enter Try.func59, Try.ntmps59
    go_wp2_with (first | ((with_reducible refine gate_dst (N := 2) rfl ?_); refine box_event ?hg (N := 2) ?hd (cs := #[.int .i64 a0_0, .int .i64 a0_1, .int .i64 a0_2, .slice A0_3 l0_3.length c0_3]) (t := 28) ?hr ?_; (case hd => rfl); (case hg => rfl); (case hr => (go_simp; done)); intro gb60001 hg w45 hbox hb; have n0_ := Aside0.mk (below_step HB.out hb); have n1_ := Aside0.mk (hbox); have n2_ := Aside0.mk ((by rw [hg]; exact (below_size HB.out) : w.heap.size ≤ gb60001)); have n3_ := Aside0.mk ((by rw [hg]; exact (below_size HB.out) : w.heap.size ≤ gb60001)); clear HB; have HB := n0_; have BK60001 := n1_; have GW60001 := n2_; have GE60001 := n3_; clear n0_ n1_ n2_ n3_; clear hb hbox hg) | ((with_reducible refine gate_dst (N := 3) rfl ?_); refine box_event ?hg (N := 3) ?hd (cs := #[.int .i64 a1_0, .int .i64 a1_1, .int .i64 a1_2, .int .i64 a1_3]) (t := 41) ?hr ?_; (case hd => rfl); (case hg => rfl); (case hr => (go_simp; done)); intro gb60002 hg w46 hbox hb; have n0_ := Aside0.mk (blk_below BK60001.out hb); have n1_ := Aside0.mk (below_step HB.out hb); have n2_ := Aside0.mk (hbox); have n3_ := Aside0.mk ((by rw [hg]; exact (below_size HB.out) : w.heap.size ≤ gb60002)); have n4_ := Aside0.mk ((by rw [hg]; exact (below_size HB.out) : w.heap.size ≤ gb60002)); have n5_ := Aside0.mk ((by rw [hg]; exact Nat.ne_of_lt (blk_lt BK60001.out) : gb60001 ≠ gb60002)); have n6_ := Aside0.mk ((by rw [hg]; exact Nat.ne_of_gt (blk_lt BK60001.out) : gb60002 ≠ gb60001)); clear BK60001; clear HB; have BK60001 := n0_; have HB := n1_; have BK60002 := n2_; have GW60002 := n3_; have GE60002 := n4_; have NB60001_60002 := n5_; have NB60002_60001 := n6_; clear n0_ n1_ n2_ n3_ n4_ n5_ n6_; clear hb hbox hg; have hnb47 := NB60002_60001.out; have hnc47 := NB60001_60002.out; have hcz48_0 : w46.cell? ⟨gb60002, 0, none⟩ = some (.int .i64 a1_0) := (blk_cell BK60002.out 0).trans rfl; have hcz48_1 : w46.cell? ⟨gb60002, 1, none⟩ = some (.int .i64 a1_1) := (blk_cell BK60002.out 1).trans rfl; have hcz48_2 : w46.cell? ⟨gb60002, 2, none⟩ = some (.int .i64 a1_2) := (blk_cell BK60002.out 2).trans rfl; have hcz48_3 : w46.cell? ⟨gb60002, 3, none⟩ = some (.int .i64 a1_3) := (blk_cell BK60002.out 3).trans rfl; have hfz48_0 := blk_frozen BK60002.out 0; have hfz48_1 := blk_frozen BK60002.out 1; have hfz48_2 := blk_frozen BK60002.out 2; have hfz48_3 := blk_frozen BK60002.out 3))
    go_ret
    exact ⟨by rfl, by exact HB.out⟩

end Go.Proofs.Ytgccpcnakkioiaa.Q

/- impl.isBoxOn, of a box on a valid image. -/
namespace Go.Proofs.Ytgccpcnakkioiaa.Q
open Go.RowKit Go.Proofs.YtgccpcnakkioiaaW.PrintWords Go.Proofs.YtgccpcnakkioiaaW.PrintLast Go.Proofs.YtgccpcnakkioiaaW.PrintMore
attribute [local go_sem] max2_int min2_int max_two min_two max_three min_three max_four min_four
set_option linter.unusedVariables false
set_option linter.unusedSimpArgs false
open Go.Proofs.Ytgccpcnakkioiaa.Pure

def boxOn (a b x y wd hg : Int) : Bool := decide (0 ≤ x ∧ x < a ∧ 0 ≤ y ∧ y < b ∧ 1 ≤ wd ∧ wd ≤ a - x ∧ 1 ≤ hg ∧ hg ≤ b - y)
theorem boxOn_iff (a b x y wd hg : Int) : boxOn a b x y wd hg = true ↔ 0 ≤ x ∧ x < a ∧ 0 ≤ y ∧ y < b ∧ 1 ≤ wd ∧ wd ≤ a - x ∧ 1 ≤ hg ∧ hg ≤ b - y := by unfold boxOn; exact decide_eq_true_iff
theorem impl_isBoxOn_eq {a b p : Int} {d : List Int} (hv : validI a b p d = true) (x y wd hg : Int) : impl_isBoxOn.f a b p d x y wd hg = some (boxOn a b x y wd hg) := by
  have hs := ((validI_iff a b p d).1 hv).1
  unfold impl_isBoxOn.f boxOn
  by_cases c1 : x ≥ 0
  · rw [if_pos c1]
    by_cases c2 : x < a
    · rw [if_pos c2]
      by_cases c3 : y ≥ 0
      · rw [if_pos c3]
        by_cases c4 : y < b
        · rw [if_pos c4, w64 (x := a - x) (by omega) (by omega), w64 (x := b - y) (by omega) (by omega)]
          by_cases c5 : wd ≥ 1
          · rw [if_pos c5]
            by_cases c6 : wd ≤ a - x
            · rw [if_pos c6]
              by_cases c7 : hg ≥ 1
              · rw [if_pos c7]; congr 1; rw [decide_eq_decide]; omega
              · rw [if_neg c7, decide_eq_false (by omega)]
            · rw [if_neg c6, decide_eq_false (by omega)]
          · rw [if_neg c5, decide_eq_false (by omega)]
        · rw [if_neg c4, decide_eq_false (by omega)]
      · rw [if_neg c3, decide_eq_false (by omega)]
    · rw [if_neg c2, decide_eq_false (by omega)]
  · rw [if_neg c1, decide_eq_false (by omega)]

/- impl.CropImage: a part of an image. -/

def cropPx (a p : Int) (d : List Int) (X Y : Nat) (x y : Nat) : List Int := pxAt a p d (X + x) (Y + y)
def impl_CropImage.f (a b p : Int) (d : List Int) (x y wd hg : Int) : Option (Int × Int × Int × List Int × Bool) := some (if validI a b p d = true ∧ boxOn a b x y wd hg = true then (wd, hg, p, imgD (cropPx a p d x.toNat y.toNat) wd.toNat hg.toNat, true) else (0, 0, 0, [], false))
set_option maxHeartbeats 4000000 in
set_option maxRecDepth 100000 in
theorem crop_no1 (a b p : Int) (A : Option Addr) (c : Nat) (d : List Int) (x y wd hg : Int) (w : World) (hr0_3 : Kd.C (Kd.int .i64) w A d.length d) (hc0_3 : d.length ≤ c) (hv1 : validI a b p d = false) :
    Calls Try.prog 29 #[.agg #[.int .i64 a, .int .i64 b, .int .i64 p, .slice A d.length c], .agg #[.int .i64 x, .int .i64 y, .int .i64 wd, .int .i64 hg]] w fun e w' => ∃ v3_ : Value, e = .returned (.tuple #[.agg #[.int .i64 0, .int .i64 0, .int .i64 0, v3_], .bool false]) ∧ Kd.R (Kd.int .i64) 3 w' w.heap.size (fun _ => True) v3_ [] ∧ Below w.heap.size w w' := by
  have HC := Aside0.mk hc0_3
  have HR := Aside0.mk hr0_3
  have HB0 := Aside0.mk (Below.refl w.heap.size w)
  have E1 := Aside0.mk (impl_isImage_eq a b p d)
  have HV := Aside0.mk hv1
  have hu := Try.underlying28
  clear hr0_3 hc0_3
  rw [hv1] at E1
  go_enter Try.func29, Try.ntmps29
  go_wp2_with (first | ((with_reducible refine gate_dst (N := 2) rfl ?_); refine box_event ?hg (N := 2) ?hd (cs := #[.int .i64 a, .int .i64 b, .int .i64 p, .slice A d.length c]) (t := 28) ?hr ?_; (case hd => rfl); (case hg => rfl); (case hr => (go_simp; done)); intro g1 hg_ w1 hbox hb; have HB1 := Aside0.mk (below_then HB0.out HB0.out.size hb); have Kb0 := Aside0.mk hbox; have Gg1 := Aside0.mk (show w.heap.size ≤ g1 from by rw [hg_]; exact HB0.out.size); have Kg1_1 := Aside0.mk hbox; clear hbox hb hg_) | ((with_reducible refine gate_dst (N := 3) rfl ?_); refine box_event ?hg (N := 3) ?hd (cs := #[.int .i64 x, .int .i64 y, .int .i64 wd, .int .i64 hg]) (t := 41) ?hr ?_; (case hd => rfl); (case hg => rfl); (case hr => (go_simp; done)); intro g3 hg_ w2 hbox hb; have HB2 := Aside0.mk (below_then HB1.out HB1.out.size hb); have Kb1 := Aside0.mk hbox; have Gg3 := Aside0.mk (show w.heap.size ≤ g3 from by rw [hg_]; exact HB1.out.size); have Kg1_2 := Aside0.mk (blk_below Kg1_1.out hb); have Kg3_2 := Aside0.mk hbox; clear hbox hb hg_) | ((with_reducible refine gate_dst (N := 4) rfl ?_); refine box_event ?hg (N := 4) ?hd (cs := #[.int .i64 0, .int .i64 0, .int .i64 0, .slice none 0 0]) (t := 28) ?hr ?_; (case hd => rfl); (case hg => rfl); (case hr => (go_simp; done)); intro g2 hg_ w3 hbox hb; have HB3 := Aside0.mk (below_then HB2.out HB2.out.size hb); have Kb2 := Aside0.mk hbox; have Gg2 := Aside0.mk (show w.heap.size ≤ g2 from by rw [hg_]; exact HB2.out.size); have Kg1_3 := Aside0.mk (blk_below Kg1_2.out hb); have Kg3_3 := Aside0.mk (blk_below Kg3_2.out hb); have Kg2_3 := Aside0.mk hbox; have fg1_0 : w3.cell? ⟨g1, 0, none⟩ = some (.int .i64 a) := (blk_cell Kg1_3.out 0).trans rfl; have fg1_1 : w3.cell? ⟨g1, 1, none⟩ = some (.int .i64 b) := (blk_cell Kg1_3.out 1).trans rfl; have fg1_2 : w3.cell? ⟨g1, 2, none⟩ = some (.int .i64 p) := (blk_cell Kg1_3.out 2).trans rfl; have fg1_3 : w3.cell? ⟨g1, 3, none⟩ = some (.slice A d.length c) := (blk_cell Kg1_3.out 3).trans rfl; have fg3_0 : w3.cell? ⟨g3, 0, none⟩ = some (.int .i64 x) := (blk_cell Kg3_3.out 0).trans rfl; have fg3_1 : w3.cell? ⟨g3, 1, none⟩ = some (.int .i64 y) := (blk_cell Kg3_3.out 1).trans rfl; have fg3_2 : w3.cell? ⟨g3, 2, none⟩ = some (.int .i64 wd) := (blk_cell Kg3_3.out 2).trans rfl; have fg3_3 : w3.cell? ⟨g3, 3, none⟩ = some (.int .i64 hg) := (blk_cell Kg3_3.out 3).trans rfl; have fg2_0 : w3.cell? ⟨g2, 0, none⟩ = some (.int .i64 0) := (blk_cell Kg2_3.out 0).trans rfl; have fg2_1 : w3.cell? ⟨g2, 1, none⟩ = some (.int .i64 0) := (blk_cell Kg2_3.out 1).trans rfl; have fg2_2 : w3.cell? ⟨g2, 2, none⟩ = some (.int .i64 0) := (blk_cell Kg2_3.out 2).trans rfl; have fg2_3 : w3.cell? ⟨g2, 3, none⟩ = some (.slice none 0 0) := (blk_cell Kg2_3.out 3).trans rfl; clear hbox hb hg_) | (go_at_call 43; (with_reducible refine (impl_isImage.calls a b p A c d _ w3 (Kd.C_below HR.out HB3.out) HC.out E1.out).mono ?_); rintro e w4 ⟨rfl, hb_⟩; have HB4 := Aside0.mk (below_then HB3.out HB3.out.size hb_); have Kg1_4 := Aside0.mk (blk_below Kg1_3.out hb_); have eg1_4_0 : w4.cell? ⟨g1, 0, none⟩ = some (.int .i64 a) := (blk_cell Kg1_4.out 0).trans rfl; have eg1_4_1 : w4.cell? ⟨g1, 1, none⟩ = some (.int .i64 b) := (blk_cell Kg1_4.out 1).trans rfl; have eg1_4_2 : w4.cell? ⟨g1, 2, none⟩ = some (.int .i64 p) := (blk_cell Kg1_4.out 2).trans rfl; have eg1_4_3 : w4.cell? ⟨g1, 3, none⟩ = some (.slice A d.length c) := (blk_cell Kg1_4.out 3).trans rfl; have Kg3_4 := Aside0.mk (blk_below Kg3_3.out hb_); have eg3_4_0 : w4.cell? ⟨g3, 0, none⟩ = some (.int .i64 x) := (blk_cell Kg3_4.out 0).trans rfl; have eg3_4_1 : w4.cell? ⟨g3, 1, none⟩ = some (.int .i64 y) := (blk_cell Kg3_4.out 1).trans rfl; have eg3_4_2 : w4.cell? ⟨g3, 2, none⟩ = some (.int .i64 wd) := (blk_cell Kg3_4.out 2).trans rfl; have eg3_4_3 : w4.cell? ⟨g3, 3, none⟩ = some (.int .i64 hg) := (blk_cell Kg3_4.out 3).trans rfl; have Kg2_4 := Aside0.mk (blk_below Kg2_3.out hb_); have eg2_4_0 : w4.cell? ⟨g2, 0, none⟩ = some (.int .i64 0) := (blk_cell Kg2_4.out 0).trans rfl; have eg2_4_1 : w4.cell? ⟨g2, 1, none⟩ = some (.int .i64 0) := (blk_cell Kg2_4.out 1).trans rfl; have eg2_4_2 : w4.cell? ⟨g2, 2, none⟩ = some (.int .i64 0) := (blk_cell Kg2_4.out 2).trans rfl; have eg2_4_3 : w4.cell? ⟨g2, 3, none⟩ = some (.slice none 0 0) := (blk_cell Kg2_4.out 3).trans rfl; have yg2_4_0 := blk_frozen Kg2_4.out 0; have yg2_4_1 := blk_frozen Kg2_4.out 1; have yg2_4_2 := blk_frozen Kg2_4.out 2; have yg2_4_3 := blk_frozen Kg2_4.out 3; clear hb_))
  refine bodyPost_ret (results_ct rfl _ _ g2 28 #[.int .i64 0, .int .i64 0, .int .i64 0, .slice none 0 0] (0, 0) _ rfl (by
    refine blk_put (cs := #[.int .i64 0, .int .i64 0, .int .i64 0, .slice none 0 0]) ?_ 3 _ rfl
    refine blk_put (cs := #[.int .i64 0, .int .i64 0, .int .i64 0, .slice none 0 0]) ?_ 2 _ rfl
    refine blk_put (cs := #[.int .i64 0, .int .i64 0, .int .i64 0, .slice none 0 0]) ?_ 1 _ rfl
    refine blk_put (cs := #[.int .i64 0, .int .i64 0, .int .i64 0, .slice none 0 0]) ?_ 0 _ rfl
    exact Kg2_4.out
    ) hu rfl (by kernel_rfl)) rfl ?_
  have G2 := Gg2.out
  exact ⟨_, rfl, Kd.R_nil _ _ _ _ _, below_set (below_set (below_set (below_set HB4.out (by omega)) (by omega)) (by omega)) (by omega)⟩
set_option maxHeartbeats 4000000 in
set_option maxRecDepth 100000 in
theorem crop_no2 (a b p : Int) (A : Option Addr) (c : Nat) (d : List Int) (x y wd hg : Int) (w : World) (hr0_3 : Kd.C (Kd.int .i64) w A d.length d) (hc0_3 : d.length ≤ c) (hv1 : validI a b p d = true) (hv2 : boxOn a b x y wd hg = false) :
    Calls Try.prog 29 #[.agg #[.int .i64 a, .int .i64 b, .int .i64 p, .slice A d.length c], .agg #[.int .i64 x, .int .i64 y, .int .i64 wd, .int .i64 hg]] w fun e w' => ∃ v3_ : Value, e = .returned (.tuple #[.agg #[.int .i64 0, .int .i64 0, .int .i64 0, v3_], .bool false]) ∧ Kd.R (Kd.int .i64) 3 w' w.heap.size (fun _ => True) v3_ [] ∧ Below w.heap.size w w' := by
  have HC := Aside0.mk hc0_3
  have HR := Aside0.mk hr0_3
  have HB0 := Aside0.mk (Below.refl w.heap.size w)
  have E1 := Aside0.mk (impl_isImage_eq a b p d)
  have HV := Aside0.mk hv1
  have hu := Try.underlying28
  clear hr0_3 hc0_3
  rw [hv1] at E1
  have E2 := Aside0.mk (impl_isBoxOn_eq hv1 x y wd hg)
  rw [hv2] at E2
  clear hv1 hv2
  go_enter Try.func29, Try.ntmps29
  go_wp2_with (first | ((with_reducible refine gate_dst (N := 2) rfl ?_); refine box_event ?hg (N := 2) ?hd (cs := #[.int .i64 a, .int .i64 b, .int .i64 p, .slice A d.length c]) (t := 28) ?hr ?_; (case hd => rfl); (case hg => rfl); (case hr => (go_simp; done)); intro g1 hg_ w1 hbox hb; have HB1 := Aside0.mk (below_then HB0.out HB0.out.size hb); have Kb0 := Aside0.mk hbox; have Gg1 := Aside0.mk (show w.heap.size ≤ g1 from by rw [hg_]; exact HB0.out.size); have Kg1_1 := Aside0.mk hbox; clear hbox hb hg_) | ((with_reducible refine gate_dst (N := 3) rfl ?_); refine box_event ?hg (N := 3) ?hd (cs := #[.int .i64 x, .int .i64 y, .int .i64 wd, .int .i64 hg]) (t := 41) ?hr ?_; (case hd => rfl); (case hg => rfl); (case hr => (go_simp; done)); intro g3 hg_ w2 hbox hb; have HB2 := Aside0.mk (below_then HB1.out HB1.out.size hb); have Kb1 := Aside0.mk hbox; have Gg3 := Aside0.mk (show w.heap.size ≤ g3 from by rw [hg_]; exact HB1.out.size); have Kg1_2 := Aside0.mk (blk_below Kg1_1.out hb); have Kg3_2 := Aside0.mk hbox; clear hbox hb hg_) | ((with_reducible refine gate_dst (N := 4) rfl ?_); refine box_event ?hg (N := 4) ?hd (cs := #[.int .i64 0, .int .i64 0, .int .i64 0, .slice none 0 0]) (t := 28) ?hr ?_; (case hd => rfl); (case hg => rfl); (case hr => (go_simp; done)); intro g2 hg_ w3 hbox hb; have HB3 := Aside0.mk (below_then HB2.out HB2.out.size hb); have Kb2 := Aside0.mk hbox; have Gg2 := Aside0.mk (show w.heap.size ≤ g2 from by rw [hg_]; exact HB2.out.size); have Kg1_3 := Aside0.mk (blk_below Kg1_2.out hb); have Kg3_3 := Aside0.mk (blk_below Kg3_2.out hb); have Kg2_3 := Aside0.mk hbox; have fg1_0 : w3.cell? ⟨g1, 0, none⟩ = some (.int .i64 a) := (blk_cell Kg1_3.out 0).trans rfl; have fg1_1 : w3.cell? ⟨g1, 1, none⟩ = some (.int .i64 b) := (blk_cell Kg1_3.out 1).trans rfl; have fg1_2 : w3.cell? ⟨g1, 2, none⟩ = some (.int .i64 p) := (blk_cell Kg1_3.out 2).trans rfl; have fg1_3 : w3.cell? ⟨g1, 3, none⟩ = some (.slice A d.length c) := (blk_cell Kg1_3.out 3).trans rfl; have fg3_0 : w3.cell? ⟨g3, 0, none⟩ = some (.int .i64 x) := (blk_cell Kg3_3.out 0).trans rfl; have fg3_1 : w3.cell? ⟨g3, 1, none⟩ = some (.int .i64 y) := (blk_cell Kg3_3.out 1).trans rfl; have fg3_2 : w3.cell? ⟨g3, 2, none⟩ = some (.int .i64 wd) := (blk_cell Kg3_3.out 2).trans rfl; have fg3_3 : w3.cell? ⟨g3, 3, none⟩ = some (.int .i64 hg) := (blk_cell Kg3_3.out 3).trans rfl; have fg2_0 : w3.cell? ⟨g2, 0, none⟩ = some (.int .i64 0) := (blk_cell Kg2_3.out 0).trans rfl; have fg2_1 : w3.cell? ⟨g2, 1, none⟩ = some (.int .i64 0) := (blk_cell Kg2_3.out 1).trans rfl; have fg2_2 : w3.cell? ⟨g2, 2, none⟩ = some (.int .i64 0) := (blk_cell Kg2_3.out 2).trans rfl; have fg2_3 : w3.cell? ⟨g2, 3, none⟩ = some (.slice none 0 0) := (blk_cell Kg2_3.out 3).trans rfl; clear hbox hb hg_) | (go_at_call 43; (with_reducible refine (impl_isImage.calls a b p A c d _ w3 (Kd.C_below HR.out HB3.out) HC.out E1.out).mono ?_); rintro e w4 ⟨rfl, hb_⟩; have HB4 := Aside0.mk (below_then HB3.out HB3.out.size hb_); have Kg1_4 := Aside0.mk (blk_below Kg1_3.out hb_); have eg1_4_0 : w4.cell? ⟨g1, 0, none⟩ = some (.int .i64 a) := (blk_cell Kg1_4.out 0).trans rfl; have eg1_4_1 : w4.cell? ⟨g1, 1, none⟩ = some (.int .i64 b) := (blk_cell Kg1_4.out 1).trans rfl; have eg1_4_2 : w4.cell? ⟨g1, 2, none⟩ = some (.int .i64 p) := (blk_cell Kg1_4.out 2).trans rfl; have eg1_4_3 : w4.cell? ⟨g1, 3, none⟩ = some (.slice A d.length c) := (blk_cell Kg1_4.out 3).trans rfl; have Kg3_4 := Aside0.mk (blk_below Kg3_3.out hb_); have eg3_4_0 : w4.cell? ⟨g3, 0, none⟩ = some (.int .i64 x) := (blk_cell Kg3_4.out 0).trans rfl; have eg3_4_1 : w4.cell? ⟨g3, 1, none⟩ = some (.int .i64 y) := (blk_cell Kg3_4.out 1).trans rfl; have eg3_4_2 : w4.cell? ⟨g3, 2, none⟩ = some (.int .i64 wd) := (blk_cell Kg3_4.out 2).trans rfl; have eg3_4_3 : w4.cell? ⟨g3, 3, none⟩ = some (.int .i64 hg) := (blk_cell Kg3_4.out 3).trans rfl; have Kg2_4 := Aside0.mk (blk_below Kg2_3.out hb_); have eg2_4_0 : w4.cell? ⟨g2, 0, none⟩ = some (.int .i64 0) := (blk_cell Kg2_4.out 0).trans rfl; have eg2_4_1 : w4.cell? ⟨g2, 1, none⟩ = some (.int .i64 0) := (blk_cell Kg2_4.out 1).trans rfl; have eg2_4_2 : w4.cell? ⟨g2, 2, none⟩ = some (.int .i64 0) := (blk_cell Kg2_4.out 2).trans rfl; have eg2_4_3 : w4.cell? ⟨g2, 3, none⟩ = some (.slice none 0 0) := (blk_cell Kg2_4.out 3).trans rfl; have yg2_4_0 := blk_frozen Kg2_4.out 0; have yg2_4_1 := blk_frozen Kg2_4.out 1; have yg2_4_2 := blk_frozen Kg2_4.out 2; have yg2_4_3 := blk_frozen Kg2_4.out 3; clear hb_) | (go_at_call 59; (with_reducible refine (impl_isBoxOn.calls a b p A c d x y wd hg _ w4 (Kd.C_below HR.out HB4.out) HC.out E2.out).mono ?_); rintro e w5 ⟨rfl, hb_⟩; have HB5 := Aside0.mk (below_then HB4.out HB4.out.size hb_); have Kg1_5 := Aside0.mk (blk_below Kg1_4.out hb_); have eg1_5_0 : w5.cell? ⟨g1, 0, none⟩ = some (.int .i64 a) := (blk_cell Kg1_5.out 0).trans rfl; have eg1_5_1 : w5.cell? ⟨g1, 1, none⟩ = some (.int .i64 b) := (blk_cell Kg1_5.out 1).trans rfl; have eg1_5_2 : w5.cell? ⟨g1, 2, none⟩ = some (.int .i64 p) := (blk_cell Kg1_5.out 2).trans rfl; have eg1_5_3 : w5.cell? ⟨g1, 3, none⟩ = some (.slice A d.length c) := (blk_cell Kg1_5.out 3).trans rfl; have Kg3_5 := Aside0.mk (blk_below Kg3_4.out hb_); have eg3_5_0 : w5.cell? ⟨g3, 0, none⟩ = some (.int .i64 x) := (blk_cell Kg3_5.out 0).trans rfl; have eg3_5_1 : w5.cell? ⟨g3, 1, none⟩ = some (.int .i64 y) := (blk_cell Kg3_5.out 1).trans rfl; have eg3_5_2 : w5.cell? ⟨g3, 2, none⟩ = some (.int .i64 wd) := (blk_cell Kg3_5.out 2).trans rfl; have eg3_5_3 : w5.cell? ⟨g3, 3, none⟩ = some (.int .i64 hg) := (blk_cell Kg3_5.out 3).trans rfl; have Kg2_5 := Aside0.mk (blk_below Kg2_4.out hb_); have eg2_5_0 : w5.cell? ⟨g2, 0, none⟩ = some (.int .i64 0) := (blk_cell Kg2_5.out 0).trans rfl; have eg2_5_1 : w5.cell? ⟨g2, 1, none⟩ = some (.int .i64 0) := (blk_cell Kg2_5.out 1).trans rfl; have eg2_5_2 : w5.cell? ⟨g2, 2, none⟩ = some (.int .i64 0) := (blk_cell Kg2_5.out 2).trans rfl; have eg2_5_3 : w5.cell? ⟨g2, 3, none⟩ = some (.slice none 0 0) := (blk_cell Kg2_5.out 3).trans rfl; have yg2_5_0 := blk_frozen Kg2_5.out 0; have yg2_5_1 := blk_frozen Kg2_5.out 1; have yg2_5_2 := blk_frozen Kg2_5.out 2; have yg2_5_3 := blk_frozen Kg2_5.out 3; clear hb_))
  refine bodyPost_ret (results_ct rfl _ _ g2 28 #[.int .i64 0, .int .i64 0, .int .i64 0, .slice none 0 0] (0, 0) _ rfl (by
    refine blk_put (cs := #[.int .i64 0, .int .i64 0, .int .i64 0, .slice none 0 0]) ?_ 3 _ rfl
    refine blk_put (cs := #[.int .i64 0, .int .i64 0, .int .i64 0, .slice none 0 0]) ?_ 2 _ rfl
    refine blk_put (cs := #[.int .i64 0, .int .i64 0, .int .i64 0, .slice none 0 0]) ?_ 1 _ rfl
    refine blk_put (cs := #[.int .i64 0, .int .i64 0, .int .i64 0, .slice none 0 0]) ?_ 0 _ rfl
    exact Kg2_5.out
    ) hu rfl (by kernel_rfl)) rfl ?_
  have G2 := Gg2.out
  exact ⟨_, rfl, Kd.R_nil _ _ _ _ _, below_set (below_set (below_set (below_set HB5.out (by omega)) (by omega)) (by omega)) (by omega)⟩
set_option maxHeartbeats 4000000 in
set_option maxRecDepth 100000 in
theorem crop_yes (a b p : Int) (A : Option Addr) (c : Nat) (d : List Int) (x y wd hg : Nat) (w : World) (hr0_3 : Kd.C (Kd.int .i64) w A d.length d) (hc0_3 : d.length ≤ c) (hv1 : validI a b p d = true) (hv2 : boxOn a b x y wd hg = true) :
    Calls Try.prog 29 #[.agg #[.int .i64 a, .int .i64 b, .int .i64 p, .slice A d.length c], .agg #[.int .i64 (x : Int), .int .i64 (y : Int), .int .i64 (wd : Int), .int .i64 (hg : Int)]] w fun e w' => ∃ v3_ : Value, e = .returned (.tuple #[.agg #[.int .i64 (wd : Int), .int .i64 (hg : Int), .int .i64 p, v3_], .bool true]) ∧ Kd.R (Kd.int .i64) 3 w' w.heap.size (fun _ => True) v3_ (imgD (cropPx a p d x y) wd hg) ∧ Below w.heap.size w w' := by
  have HC := Aside0.mk hc0_3
  have HR := Aside0.mk hr0_3
  have HB0 := Aside0.mk (Below.refl w.heap.size w)
  have E1 := Aside0.mk (impl_isImage_eq a b p d)
  have HV := Aside0.mk hv1
  have hu := Try.underlying28
  clear hr0_3 hc0_3
  rw [hv1] at E1
  have E2 := Aside0.mk (impl_isBoxOn_eq hv1 x y wd hg)
  rw [hv2] at E2
  have hs := ((validI_iff a b p d).1 hv1).1
  have hbx := (boxOn_iff a b x y wd hg).1 hv2
  have HPL := Aside0.mk (show ∀ x' y', x' < wd → y' < hg → (cropPx a p d x y x' y').length ≤ 4 from fun x' y' hx hy => pxAt_le hv1 (by omega) (by omega))
  clear hv1 hv2
  go_enter Try.func29, Try.ntmps29
  go_wp2_with (first | ((with_reducible refine gate_dst (N := 2) rfl ?_); refine box_event ?hg (N := 2) ?hd (cs := #[.int .i64 a, .int .i64 b, .int .i64 p, .slice A d.length c]) (t := 28) ?hr ?_; (case hd => rfl); (case hg => rfl); (case hr => (go_simp; done)); intro g1 hg_ w1 hbox hb; have HB1 := Aside0.mk (below_then HB0.out HB0.out.size hb); have Kb0 := Aside0.mk hbox; have Gg1 := Aside0.mk (show w.heap.size ≤ g1 from by rw [hg_]; exact HB0.out.size); have Kg1_1 := Aside0.mk hbox; clear hbox hb hg_) | ((with_reducible refine gate_dst (N := 3) rfl ?_); refine box_event ?hg (N := 3) ?hd (cs := #[.int .i64 (x : Int), .int .i64 (y : Int), .int .i64 (wd : Int), .int .i64 (hg : Int)]) (t := 41) ?hr ?_; (case hd => rfl); (case hg => rfl); (case hr => (go_simp; done)); intro g3 hg_ w2 hbox hb; have HB2 := Aside0.mk (below_then HB1.out HB1.out.size hb); have Kb1 := Aside0.mk hbox; have Gg3 := Aside0.mk (show w.heap.size ≤ g3 from by rw [hg_]; exact HB1.out.size); have Kg1_2 := Aside0.mk (blk_below Kg1_1.out hb); have Kg3_2 := Aside0.mk hbox; clear hbox hb hg_) | ((with_reducible refine gate_dst (N := 4) rfl ?_); refine box_event ?hg (N := 4) ?hd (cs := #[.int .i64 0, .int .i64 0, .int .i64 0, .slice none 0 0]) (t := 28) ?hr ?_; (case hd => rfl); (case hg => rfl); (case hr => (go_simp; done)); intro g2 hg_ w3 hbox hb; have HB3 := Aside0.mk (below_then HB2.out HB2.out.size hb); have Kb2 := Aside0.mk hbox; have Gg2 := Aside0.mk (show w.heap.size ≤ g2 from by rw [hg_]; exact HB2.out.size); have Kg1_3 := Aside0.mk (blk_below Kg1_2.out hb); have Kg3_3 := Aside0.mk (blk_below Kg3_2.out hb); have Kg2_3 := Aside0.mk hbox; have fg1_0 : w3.cell? ⟨g1, 0, none⟩ = some (.int .i64 a) := (blk_cell Kg1_3.out 0).trans rfl; have fg1_1 : w3.cell? ⟨g1, 1, none⟩ = some (.int .i64 b) := (blk_cell Kg1_3.out 1).trans rfl; have fg1_2 : w3.cell? ⟨g1, 2, none⟩ = some (.int .i64 p) := (blk_cell Kg1_3.out 2).trans rfl; have fg1_3 : w3.cell? ⟨g1, 3, none⟩ = some (.slice A d.length c) := (blk_cell Kg1_3.out 3).trans rfl; have fg3_0 : w3.cell? ⟨g3, 0, none⟩ = some (.int .i64 (x : Int)) := (blk_cell Kg3_3.out 0).trans rfl; have fg3_1 : w3.cell? ⟨g3, 1, none⟩ = some (.int .i64 (y : Int)) := (blk_cell Kg3_3.out 1).trans rfl; have fg3_2 : w3.cell? ⟨g3, 2, none⟩ = some (.int .i64 (wd : Int)) := (blk_cell Kg3_3.out 2).trans rfl; have fg3_3 : w3.cell? ⟨g3, 3, none⟩ = some (.int .i64 (hg : Int)) := (blk_cell Kg3_3.out 3).trans rfl; have fg2_0 : w3.cell? ⟨g2, 0, none⟩ = some (.int .i64 0) := (blk_cell Kg2_3.out 0).trans rfl; have fg2_1 : w3.cell? ⟨g2, 1, none⟩ = some (.int .i64 0) := (blk_cell Kg2_3.out 1).trans rfl; have fg2_2 : w3.cell? ⟨g2, 2, none⟩ = some (.int .i64 0) := (blk_cell Kg2_3.out 2).trans rfl; have fg2_3 : w3.cell? ⟨g2, 3, none⟩ = some (.slice none 0 0) := (blk_cell Kg2_3.out 3).trans rfl; clear hbox hb hg_) | (go_at_call 43; (with_reducible refine (impl_isImage.calls a b p A c d _ w3 (Kd.C_below HR.out HB3.out) HC.out E1.out).mono ?_); rintro e w4 ⟨rfl, hb_⟩; have HB4 := Aside0.mk (below_then HB3.out HB3.out.size hb_); have Kg1_4 := Aside0.mk (blk_below Kg1_3.out hb_); have eg1_4_0 : w4.cell? ⟨g1, 0, none⟩ = some (.int .i64 a) := (blk_cell Kg1_4.out 0).trans rfl; have eg1_4_1 : w4.cell? ⟨g1, 1, none⟩ = some (.int .i64 b) := (blk_cell Kg1_4.out 1).trans rfl; have eg1_4_2 : w4.cell? ⟨g1, 2, none⟩ = some (.int .i64 p) := (blk_cell Kg1_4.out 2).trans rfl; have eg1_4_3 : w4.cell? ⟨g1, 3, none⟩ = some (.slice A d.length c) := (blk_cell Kg1_4.out 3).trans rfl; have Kg3_4 := Aside0.mk (blk_below Kg3_3.out hb_); have eg3_4_0 : w4.cell? ⟨g3, 0, none⟩ = some (.int .i64 (x : Int)) := (blk_cell Kg3_4.out 0).trans rfl; have eg3_4_1 : w4.cell? ⟨g3, 1, none⟩ = some (.int .i64 (y : Int)) := (blk_cell Kg3_4.out 1).trans rfl; have eg3_4_2 : w4.cell? ⟨g3, 2, none⟩ = some (.int .i64 (wd : Int)) := (blk_cell Kg3_4.out 2).trans rfl; have eg3_4_3 : w4.cell? ⟨g3, 3, none⟩ = some (.int .i64 (hg : Int)) := (blk_cell Kg3_4.out 3).trans rfl; have Kg2_4 := Aside0.mk (blk_below Kg2_3.out hb_); have eg2_4_0 : w4.cell? ⟨g2, 0, none⟩ = some (.int .i64 0) := (blk_cell Kg2_4.out 0).trans rfl; have eg2_4_1 : w4.cell? ⟨g2, 1, none⟩ = some (.int .i64 0) := (blk_cell Kg2_4.out 1).trans rfl; have eg2_4_2 : w4.cell? ⟨g2, 2, none⟩ = some (.int .i64 0) := (blk_cell Kg2_4.out 2).trans rfl; have eg2_4_3 : w4.cell? ⟨g2, 3, none⟩ = some (.slice none 0 0) := (blk_cell Kg2_4.out 3).trans rfl; have yg2_4_0 := blk_frozen Kg2_4.out 0; have yg2_4_1 := blk_frozen Kg2_4.out 1; have yg2_4_2 := blk_frozen Kg2_4.out 2; have yg2_4_3 := blk_frozen Kg2_4.out 3; clear hb_) | (go_at_call 59; (with_reducible refine (impl_isBoxOn.calls a b p A c d x y wd hg _ w4 (Kd.C_below HR.out HB4.out) HC.out E2.out).mono ?_); rintro e w5 ⟨rfl, hb_⟩; have HB5 := Aside0.mk (below_then HB4.out HB4.out.size hb_); have Kg1_5 := Aside0.mk (blk_below Kg1_4.out hb_); have eg1_5_0 : w5.cell? ⟨g1, 0, none⟩ = some (.int .i64 a) := (blk_cell Kg1_5.out 0).trans rfl; have eg1_5_1 : w5.cell? ⟨g1, 1, none⟩ = some (.int .i64 b) := (blk_cell Kg1_5.out 1).trans rfl; have eg1_5_2 : w5.cell? ⟨g1, 2, none⟩ = some (.int .i64 p) := (blk_cell Kg1_5.out 2).trans rfl; have eg1_5_3 : w5.cell? ⟨g1, 3, none⟩ = some (.slice A d.length c) := (blk_cell Kg1_5.out 3).trans rfl; have Kg3_5 := Aside0.mk (blk_below Kg3_4.out hb_); have eg3_5_0 : w5.cell? ⟨g3, 0, none⟩ = some (.int .i64 (x : Int)) := (blk_cell Kg3_5.out 0).trans rfl; have eg3_5_1 : w5.cell? ⟨g3, 1, none⟩ = some (.int .i64 (y : Int)) := (blk_cell Kg3_5.out 1).trans rfl; have eg3_5_2 : w5.cell? ⟨g3, 2, none⟩ = some (.int .i64 (wd : Int)) := (blk_cell Kg3_5.out 2).trans rfl; have eg3_5_3 : w5.cell? ⟨g3, 3, none⟩ = some (.int .i64 (hg : Int)) := (blk_cell Kg3_5.out 3).trans rfl; have Kg2_5 := Aside0.mk (blk_below Kg2_4.out hb_); have eg2_5_0 : w5.cell? ⟨g2, 0, none⟩ = some (.int .i64 0) := (blk_cell Kg2_5.out 0).trans rfl; have eg2_5_1 : w5.cell? ⟨g2, 1, none⟩ = some (.int .i64 0) := (blk_cell Kg2_5.out 1).trans rfl; have eg2_5_2 : w5.cell? ⟨g2, 2, none⟩ = some (.int .i64 0) := (blk_cell Kg2_5.out 2).trans rfl; have eg2_5_3 : w5.cell? ⟨g2, 3, none⟩ = some (.slice none 0 0) := (blk_cell Kg2_5.out 3).trans rfl; have yg2_5_0 := blk_frozen Kg2_5.out 0; have yg2_5_1 := blk_frozen Kg2_5.out 1; have yg2_5_2 := blk_frozen Kg2_5.out 2; have yg2_5_3 := blk_frozen Kg2_5.out 3; clear hb_) | (go_at_call 53; refine (imageBy_calls 60 #[.pointer (some ⟨g1, 0, none⟩), .pointer (some ⟨g3, 0, none⟩)] (cropPx a p d x y) wd hg p (by omega) (by omega) w5 (enters_of Try.func60 (by kernel_rfl) rfl) HPL.out (fun W x' y' hx hy hW => crop1_calls a b p A c d HV.out HC.out x y wd hg x' y' (by omega) (by omega) g1 W (blk_below Kg1_5.out hW) g3 (blk_below Kg3_5.out hW) (Kd.C_below (Kd.C_below HR.out HB5.out) hW))).mono ?_; rintro e w6 ⟨v6, rfl, hr6, hb_⟩; have HB6 := Aside0.mk (below_then HB5.out HB5.out.size hb_); have Kg1_6 := Aside0.mk (blk_below Kg1_5.out hb_); have eg1_6_0 : w6.cell? ⟨g1, 0, none⟩ = some (.int .i64 a) := (blk_cell Kg1_6.out 0).trans rfl; have eg1_6_1 : w6.cell? ⟨g1, 1, none⟩ = some (.int .i64 b) := (blk_cell Kg1_6.out 1).trans rfl; have eg1_6_2 : w6.cell? ⟨g1, 2, none⟩ = some (.int .i64 p) := (blk_cell Kg1_6.out 2).trans rfl; have eg1_6_3 : w6.cell? ⟨g1, 3, none⟩ = some (.slice A d.length c) := (blk_cell Kg1_6.out 3).trans rfl; have Kg3_6 := Aside0.mk (blk_below Kg3_5.out hb_); have eg3_6_0 : w6.cell? ⟨g3, 0, none⟩ = some (.int .i64 (x : Int)) := (blk_cell Kg3_6.out 0).trans rfl; have eg3_6_1 : w6.cell? ⟨g3, 1, none⟩ = some (.int .i64 (y : Int)) := (blk_cell Kg3_6.out 1).trans rfl; have eg3_6_2 : w6.cell? ⟨g3, 2, none⟩ = some (.int .i64 (wd : Int)) := (blk_cell Kg3_6.out 2).trans rfl; have eg3_6_3 : w6.cell? ⟨g3, 3, none⟩ = some (.int .i64 (hg : Int)) := (blk_cell Kg3_6.out 3).trans rfl; have Kg2_6 := Aside0.mk (blk_below Kg2_5.out hb_); have eg2_6_0 : w6.cell? ⟨g2, 0, none⟩ = some (.int .i64 0) := (blk_cell Kg2_6.out 0).trans rfl; have eg2_6_1 : w6.cell? ⟨g2, 1, none⟩ = some (.int .i64 0) := (blk_cell Kg2_6.out 1).trans rfl; have eg2_6_2 : w6.cell? ⟨g2, 2, none⟩ = some (.int .i64 0) := (blk_cell Kg2_6.out 2).trans rfl; have eg2_6_3 : w6.cell? ⟨g2, 3, none⟩ = some (.slice none 0 0) := (blk_cell Kg2_6.out 3).trans rfl; have yg2_6_0 := blk_frozen Kg2_6.out 0; have yg2_6_1 := blk_frozen Kg2_6.out 1; have yg2_6_2 := blk_frozen Kg2_6.out 2; have yg2_6_3 := blk_frozen Kg2_6.out 3; have HR6 := Aside0.mk (Kd.R_lower hr6 HB5.out.size); obtain ⟨A6, c6, ev6⟩ := Kd.R_slice HR6.out; subst ev6; clear hr6 hb_))
  have G2 := Gg2.out
  have RR := Kd.R_types HR6.out Kg2_6.out (by decide)
  refine bodyPost_ret (results_ct rfl _ _ g2 28 #[.int .i64 (wd : Int), .int .i64 (hg : Int), .int .i64 p, .slice A6 (imgD (cropPx a p d x y) wd hg).length c6] (0, 0) _ rfl (by
    refine blk_put (cs := #[.int .i64 (wd : Int), .int .i64 (hg : Int), .int .i64 p, .slice none 0 0]) ?_ 3 _ rfl
    refine blk_put (cs := #[.int .i64 (wd : Int), .int .i64 (hg : Int), .int .i64 0, .slice none 0 0]) ?_ 2 _ rfl
    refine blk_put (cs := #[.int .i64 (wd : Int), .int .i64 0, .int .i64 0, .slice none 0 0]) ?_ 1 _ rfl
    refine blk_put (cs := #[.int .i64 0, .int .i64 0, .int .i64 0, .slice none 0 0]) ?_ 0 _ rfl
    exact Kg2_6.out
    ) hu rfl (by kernel_rfl)) rfl ?_
  exact ⟨_, rfl, Kd.R_mono (Kd.R_far (Kd.R_far (Kd.R_far (Kd.R_far RR (fun k hk => hk.2) _) (fun k hk => hk.2) _) (fun k hk => hk.2) _) (fun k hk => hk.2) _) (fun _ _ => trivial), below_set (below_set (below_set (below_set HB6.out (by omega)) (by omega)) (by omega)) (by omega)⟩
theorem impl_CropImage.calls (a b p : Int) (A : Option Addr) (c : Nat) (d : List Int) (x y wd hg : Int) (r1 r2 r3 : Int) (r4 : List Int) (r5 : Bool) (w : World) (hr0_3 : Kd.C (Kd.int .i64) w A d.length d) (hc0_3 : d.length ≤ c) (h : impl_CropImage.f a b p d x y wd hg = some (r1, r2, r3, r4, r5)) :
    Calls Try.prog 29 #[.agg #[.int .i64 a, .int .i64 b, .int .i64 p, .slice A d.length c], .agg #[.int .i64 x, .int .i64 y, .int .i64 wd, .int .i64 hg]] w fun e w' => ∃ v3_ : Value, e = .returned (.tuple #[.agg #[.int .i64 r1, .int .i64 r2, .int .i64 r3, v3_], .bool r5]) ∧ Kd.R (Kd.int .i64) 3 w' w.heap.size (fun _ => True) v3_ r4 ∧ Below w.heap.size w w' := by
  have hv := Option.some.inj h
  cases hv1 : validI a b p d with
  | false =>
    rw [hv1, if_neg (by simp)] at hv
    obtain ⟨rfl, rfl, rfl, rfl, rfl⟩ : 0 = r1 ∧ 0 = r2 ∧ 0 = r3 ∧ [] = r4 ∧ false = r5 := by simpa using hv
    exact crop_no1 a b p A c d x y wd hg w hr0_3 hc0_3 hv1
  | true =>
    cases hv2 : boxOn a b x y wd hg with
    | false =>
      rw [hv1, hv2, if_neg (by simp)] at hv
      obtain ⟨rfl, rfl, rfl, rfl, rfl⟩ : 0 = r1 ∧ 0 = r2 ∧ 0 = r3 ∧ [] = r4 ∧ false = r5 := by simpa using hv
      exact crop_no2 a b p A c d x y wd hg w hr0_3 hc0_3 hv1 hv2
    | true =>
      have hbx := (boxOn_iff a b x y wd hg).1 hv2
      rw [hv1, hv2, if_pos ⟨rfl, rfl⟩] at hv
      obtain ⟨xn, rfl⟩ := Int.eq_ofNat_of_zero_le (show 0 ≤ x by omega)
      obtain ⟨yn, rfl⟩ := Int.eq_ofNat_of_zero_le (show 0 ≤ y by omega)
      obtain ⟨wn, rfl⟩ := Int.eq_ofNat_of_zero_le (show 0 ≤ wd by omega)
      obtain ⟨hn, rfl⟩ := Int.eq_ofNat_of_zero_le (show 0 ≤ hg by omega)
      obtain ⟨rfl, rfl, rfl, rfl, rfl⟩ : (wn : Int) = r1 ∧ (hn : Int) = r2 ∧ p = r3 ∧ imgD (cropPx a p d xn yn) wn hn = r4 ∧ true = r5 := by simpa using hv
      exact crop_yes a b p A c d xn yn wn hn w hr0_3 hc0_3 hv1 hv2
end Go.Proofs.Ytgccpcnakkioiaa.Q

namespace Go.Proofs.Ytgccpcnakkioiaa.Q
open Go.RowKit Go.Proofs.YtgccpcnakkioiaaW.PrintWords Go.Proofs.YtgccpcnakkioiaaW.PrintLast Go.Proofs.YtgccpcnakkioiaaW.PrintMore
attribute [local go_sem] max2_int min2_int max_two min_two max_three min_three max_four min_four
set_option linter.unusedVariables false
set_option linter.unusedSimpArgs false
def impl_Box_has.f (a0_0 : Int) (a0_1 : Int) (a0_2 : Int) (a0_3 : Int) (a1 : Int) (a2 : Int) : Option (Bool) := if a1 ≥ a0_0 then (if a1 < (wrap64 (a0_0 + a0_2)) then (if a2 ≥ a0_1 then (some (decide (a2 < (wrap64 (a0_1 + a0_3))))) else (some false)) else (some false)) else (some false)
set_option maxHeartbeats 8000000 in
set_option maxRecDepth 100000 in
theorem impl_Box_has.calls (a0_0 : Int) (a0_1 : Int) (a0_2 : Int) (a0_3 : Int) (a1 : Int) (a2 : Int) (r : Bool) (w : World) (h : impl_Box_has.f a0_0 a0_1 a0_2 a0_3 a1 a2 = some r) :
    Calls Try.prog 81 #[.agg #[.int .i64 a0_0, .int .i64 a0_1, .int .i64 a0_2, .int .i64 a0_3], .int .i64 a1, .int .i64 a2] w fun e w' => e = .returned (.bool r) ∧ Below w.heap.size w w' := by
  have hu41 := Try.underlying41
  have HB := Aside0.mk (Below.refl w.heap.size w)
  have H : (if a1 ≥ a0_0 then (if a1 < (wrap64 (a0_0 + a0_2)) then (if a2 ≥ a0_1 then (some (decide (a2 < (wrap64 (a0_1 + a0_3))))) else (some false)) else (some false)) else (some false)) = some r := h
  clear h
  by_cases c4 : a1 ≥ a0_0
  · rw [if_pos c4] at H
    have c4b0 : decide (a0_0 ≤ a1) = true := decide_eq_true c4
    clear c4
    by_cases c5 : a1 < (wrap64 (a0_0 + a0_2))
    · rw [if_pos c5] at H
      have c5b0 : decide (a1 < (wrap64 (a0_0 + a0_2))) = true := decide_eq_true c5
      clear c5
      by_cases c6 : a2 ≥ a0_1
      · rw [if_pos c6] at H
        have c6b0 : decide (a0_1 ≤ a2) = true := decide_eq_true c6
        clear c6
        obtain rfl := Option.some.inj H
        go_enter Try.func81, Try.ntmps81
        go_wp2_with (first | ((with_reducible refine gate_dst (N := 3) rfl ?_); refine box_event ?hg (N := 3) ?hd (cs := #[.int .i64 a0_0, .int .i64 a0_1, .int .i64 a0_2, .int .i64 a0_3]) (t := 41) ?hr ?_; (case hd => rfl); (case hg => rfl); (case hr => first | (go_simp; done) | (go_simp; rfl)); intro gb82001 hg w7 hbox hb; have n0_ := Aside0.mk (below_step (by repeat (first | (with_reducible first | exact HB.out | apply below_alloc | apply pw_below_drewN | apply below_drew1) | exact HB.out)) hb); have n1_ := Aside0.mk (hbox); have n2_ := Aside0.mk ((by rw [hg]; exact (below_size (by repeat (first | (with_reducible first | exact HB.out | apply below_alloc | apply pw_below_drewN | apply below_drew1) | exact HB.out))) : w.heap.size ≤ gb82001)); have n3_ := Aside0.mk ((by rw [hg]; exact (below_size (by repeat (first | (with_reducible first | exact HB.out | apply below_alloc | apply pw_below_drewN | apply below_drew1) | exact HB.out))) : w.heap.size ≤ gb82001)); clear HB; have HB := n0_; have BK82001 := n1_; have GW82001 := n2_; have GE82001 := n3_; clear n0_ n1_ n2_ n3_; clear hb hbox hg; have hcz8_0 : w7.cell? ⟨gb82001, 0, none⟩ = some (.int .i64 a0_0) := (blk_cell BK82001.out 0).trans rfl; have hcz8_1 : w7.cell? ⟨gb82001, 1, none⟩ = some (.int .i64 a0_1) := (blk_cell BK82001.out 1).trans rfl; have hcz8_2 : w7.cell? ⟨gb82001, 2, none⟩ = some (.int .i64 a0_2) := (blk_cell BK82001.out 2).trans rfl; have hcz8_3 : w7.cell? ⟨gb82001, 3, none⟩ = some (.int .i64 a0_3) := (blk_cell BK82001.out 3).trans rfl; have hfz8_0 := blk_frozen BK82001.out 0; have hfz8_1 := blk_frozen BK82001.out 1; have hfz8_2 := blk_frozen BK82001.out 2; have hfz8_3 := blk_frozen BK82001.out 3))
        go_ret
        exact ⟨by first | rfl | (simp [errW_none, errW_some] <;> rfl) | (simp [*, errW_none, errW_some] <;> rfl), by repeat (first | (with_reducible first | exact HB.out | apply below_alloc | apply pw_below_drewN | apply below_drew1 | refine below_set ?_ GE82001.out) | exact HB.out)⟩
      · rw [if_neg c6] at H
        have c6b0 : decide (a0_1 ≤ a2) = false := decide_eq_false c6
        clear c6
        obtain rfl := Option.some.inj H
        go_enter Try.func81, Try.ntmps81
        go_wp2_with (first | ((with_reducible refine gate_dst (N := 3) rfl ?_); refine box_event ?hg (N := 3) ?hd (cs := #[.int .i64 a0_0, .int .i64 a0_1, .int .i64 a0_2, .int .i64 a0_3]) (t := 41) ?hr ?_; (case hd => rfl); (case hg => rfl); (case hr => first | (go_simp; done) | (go_simp; rfl)); intro gb82001 hg w9 hbox hb; have n0_ := Aside0.mk (below_step (by repeat (first | (with_reducible first | exact HB.out | apply below_alloc | apply pw_below_drewN | apply below_drew1) | exact HB.out)) hb); have n1_ := Aside0.mk (hbox); have n2_ := Aside0.mk ((by rw [hg]; exact (below_size (by repeat (first | (with_reducible first | exact HB.out | apply below_alloc | apply pw_below_drewN | apply below_drew1) | exact HB.out))) : w.heap.size ≤ gb82001)); have n3_ := Aside0.mk ((by rw [hg]; exact (below_size (by repeat (first | (with_reducible first | exact HB.out | apply below_alloc | apply pw_below_drewN | apply below_drew1) | exact HB.out))) : w.heap.size ≤ gb82001)); clear HB; have HB := n0_; have BK82001 := n1_; have GW82001 := n2_; have GE82001 := n3_; clear n0_ n1_ n2_ n3_; clear hb hbox hg; have hcz10_0 : w9.cell? ⟨gb82001, 0, none⟩ = some (.int .i64 a0_0) := (blk_cell BK82001.out 0).trans rfl; have hcz10_1 : w9.cell? ⟨gb82001, 1, none⟩ = some (.int .i64 a0_1) := (blk_cell BK82001.out 1).trans rfl; have hcz10_2 : w9.cell? ⟨gb82001, 2, none⟩ = some (.int .i64 a0_2) := (blk_cell BK82001.out 2).trans rfl; have hcz10_3 : w9.cell? ⟨gb82001, 3, none⟩ = some (.int .i64 a0_3) := (blk_cell BK82001.out 3).trans rfl; have hfz10_0 := blk_frozen BK82001.out 0; have hfz10_1 := blk_frozen BK82001.out 1; have hfz10_2 := blk_frozen BK82001.out 2; have hfz10_3 := blk_frozen BK82001.out 3))
        go_ret
        exact ⟨by first | rfl | (simp [errW_none, errW_some] <;> rfl) | (simp [*, errW_none, errW_some] <;> rfl), by repeat (first | (with_reducible first | exact HB.out | apply below_alloc | apply pw_below_drewN | apply below_drew1 | refine below_set ?_ GE82001.out) | exact HB.out)⟩
    · rw [if_neg c5] at H
      have c5b0 : decide (a1 < (wrap64 (a0_0 + a0_2))) = false := decide_eq_false c5
      clear c5
      obtain rfl := Option.some.inj H
      go_enter Try.func81, Try.ntmps81
      go_wp2_with (first | ((with_reducible refine gate_dst (N := 3) rfl ?_); refine box_event ?hg (N := 3) ?hd (cs := #[.int .i64 a0_0, .int .i64 a0_1, .int .i64 a0_2, .int .i64 a0_3]) (t := 41) ?hr ?_; (case hd => rfl); (case hg => rfl); (case hr => first | (go_simp; done) | (go_simp; rfl)); intro gb82001 hg w11 hbox hb; have n0_ := Aside0.mk (below_step (by repeat (first | (with_reducible first | exact HB.out | apply below_alloc | apply pw_below_drewN | apply below_drew1) | exact HB.out)) hb); have n1_ := Aside0.mk (hbox); have n2_ := Aside0.mk ((by rw [hg]; exact (below_size (by repeat (first | (with_reducible first | exact HB.out | apply below_alloc | apply pw_below_drewN | apply below_drew1) | exact HB.out))) : w.heap.size ≤ gb82001)); have n3_ := Aside0.mk ((by rw [hg]; exact (below_size (by repeat (first | (with_reducible first | exact HB.out | apply below_alloc | apply pw_below_drewN | apply below_drew1) | exact HB.out))) : w.heap.size ≤ gb82001)); clear HB; have HB := n0_; have BK82001 := n1_; have GW82001 := n2_; have GE82001 := n3_; clear n0_ n1_ n2_ n3_; clear hb hbox hg; have hcz12_0 : w11.cell? ⟨gb82001, 0, none⟩ = some (.int .i64 a0_0) := (blk_cell BK82001.out 0).trans rfl; have hcz12_1 : w11.cell? ⟨gb82001, 1, none⟩ = some (.int .i64 a0_1) := (blk_cell BK82001.out 1).trans rfl; have hcz12_2 : w11.cell? ⟨gb82001, 2, none⟩ = some (.int .i64 a0_2) := (blk_cell BK82001.out 2).trans rfl; have hcz12_3 : w11.cell? ⟨gb82001, 3, none⟩ = some (.int .i64 a0_3) := (blk_cell BK82001.out 3).trans rfl; have hfz12_0 := blk_frozen BK82001.out 0; have hfz12_1 := blk_frozen BK82001.out 1; have hfz12_2 := blk_frozen BK82001.out 2; have hfz12_3 := blk_frozen BK82001.out 3))
      go_ret
      exact ⟨by first | rfl | (simp [errW_none, errW_some] <;> rfl) | (simp [*, errW_none, errW_some] <;> rfl), by repeat (first | (with_reducible first | exact HB.out | apply below_alloc | apply pw_below_drewN | apply below_drew1 | refine below_set ?_ GE82001.out) | exact HB.out)⟩
  · rw [if_neg c4] at H
    have c4b0 : decide (a0_0 ≤ a1) = false := decide_eq_false c4
    clear c4
    obtain rfl := Option.some.inj H
    go_enter Try.func81, Try.ntmps81
    go_wp2_with (first | ((with_reducible refine gate_dst (N := 3) rfl ?_); refine box_event ?hg (N := 3) ?hd (cs := #[.int .i64 a0_0, .int .i64 a0_1, .int .i64 a0_2, .int .i64 a0_3]) (t := 41) ?hr ?_; (case hd => rfl); (case hg => rfl); (case hr => first | (go_simp; done) | (go_simp; rfl)); intro gb82001 hg w13 hbox hb; have n0_ := Aside0.mk (below_step (by repeat (first | (with_reducible first | exact HB.out | apply below_alloc | apply pw_below_drewN | apply below_drew1) | exact HB.out)) hb); have n1_ := Aside0.mk (hbox); have n2_ := Aside0.mk ((by rw [hg]; exact (below_size (by repeat (first | (with_reducible first | exact HB.out | apply below_alloc | apply pw_below_drewN | apply below_drew1) | exact HB.out))) : w.heap.size ≤ gb82001)); have n3_ := Aside0.mk ((by rw [hg]; exact (below_size (by repeat (first | (with_reducible first | exact HB.out | apply below_alloc | apply pw_below_drewN | apply below_drew1) | exact HB.out))) : w.heap.size ≤ gb82001)); clear HB; have HB := n0_; have BK82001 := n1_; have GW82001 := n2_; have GE82001 := n3_; clear n0_ n1_ n2_ n3_; clear hb hbox hg; have hcz14_0 : w13.cell? ⟨gb82001, 0, none⟩ = some (.int .i64 a0_0) := (blk_cell BK82001.out 0).trans rfl; have hcz14_1 : w13.cell? ⟨gb82001, 1, none⟩ = some (.int .i64 a0_1) := (blk_cell BK82001.out 1).trans rfl; have hcz14_2 : w13.cell? ⟨gb82001, 2, none⟩ = some (.int .i64 a0_2) := (blk_cell BK82001.out 2).trans rfl; have hcz14_3 : w13.cell? ⟨gb82001, 3, none⟩ = some (.int .i64 a0_3) := (blk_cell BK82001.out 3).trans rfl; have hfz14_0 := blk_frozen BK82001.out 0; have hfz14_1 := blk_frozen BK82001.out 1; have hfz14_2 := blk_frozen BK82001.out 2; have hfz14_3 := blk_frozen BK82001.out 3))
    go_ret
    exact ⟨by first | rfl | (simp [errW_none, errW_some] <;> rfl) | (simp [*, errW_none, errW_some] <;> rfl), by repeat (first | (with_reducible first | exact HB.out | apply below_alloc | apply pw_below_drewN | apply below_drew1 | refine below_set ?_ GE82001.out) | exact HB.out)⟩

end Go.Proofs.Ytgccpcnakkioiaa.Q

/- impl.doStep's function value: a box's pixels are one pixel's numbers. -/
namespace Go.Proofs.Ytgccpcnakkioiaa.Q
open Go.RowKit Go.Proofs.YtgccpcnakkioiaaW.PrintWords Go.Proofs.YtgccpcnakkioiaaW.PrintLast Go.Proofs.YtgccpcnakkioiaaW.PrintMore
attribute [local go_sem] max2_int min2_int max_two min_two max_three min_three max_four min_four
set_option linter.unusedVariables false
set_option linter.unusedSimpArgs false
open Go.Proofs.Ytgccpcnakkioiaa.Pure

def inBox (x y wd hg : Nat) (i j : Nat) : Bool := decide (x ≤ i ∧ i < x + wd ∧ y ≤ j ∧ j < y + hg)
theorem impl_Box_has_nat (x y wd hg i j : Nat) (h1 : x ≤ 1000) (h2 : y ≤ 1000) (h3 : wd ≤ 1000) (h4 : hg ≤ 1000) : impl_Box_has.f (x : Int) (y : Int) (wd : Int) (hg : Int) (i : Int) (j : Int) = some (inBox x y wd hg i j) := by
  unfold impl_Box_has.f inBox
  rw [w64 (x := (x : Int) + wd) (by omega) (by omega), w64 (x := (y : Int) + hg) (by omega) (by omega)]
  by_cases c1 : (i : Int) ≥ x
  · rw [if_pos c1]
    by_cases c2 : (i : Int) < (x : Int) + wd
    · rw [if_pos c2]
      by_cases c3 : (j : Int) ≥ y
      · rw [if_pos c3]; congr 1; rw [decide_eq_decide]; omega
      · rw [if_neg c3, decide_eq_false (by omega)]
    · rw [if_neg c2, decide_eq_false (by omega)]
  · rw [if_neg c1, decide_eq_false (by omega)]
def fillPx (a p : Int) (d : List Int) (x y wd hg : Nat) (pix : List Int) (i j : Nat) : List Int := if inBox x y wd hg i j = true then pix else pxAt a p d i j
set_option maxHeartbeats 1600000 in
set_option maxRecDepth 100000 in
theorem fill1_calls (a b p : Int) (A : Option Addr) (c : Nat) (d : List Int) (hv : validI a b p d = true) (hc : d.length ≤ c) (kind : Int) (x y wd hg : Nat) (hx4 : x ≤ 16) (hy4 : y ≤ 16) (hw4 : wd ≤ 16) (hh4 : hg ≤ 16) (A3 : Option Addr) (c3 : Nat) (pix : List Int) (hc3 : pix.length ≤ c3) (i j : Nat) (hi : (i : Int) < a) (hj : (j : Int) < b) (B2 : Nat) (w : World) (h2 : w.heap[B2]? = some (.cells #[.int .i64 kind, .int .i64 (x : Int), .int .i64 (y : Int), .int .i64 (wd : Int), .int .i64 (hg : Int), .slice A3 pix.length c3] 43 (0, 0))) (B : Nat) (h1 : w.heap[B]? = some (.cells #[.int .i64 a, .int .i64 b, .int .i64 p, .slice A d.length c] 28 (0, 0))) (hr : Kd.C (Kd.int .i64) w A d.length d) (hr3 : Kd.C (Kd.int .i64) w A3 pix.length pix) :
    Calls Try.prog 80 (#[.int .i64 (i : Int), .int .i64 (j : Int)] ++ #[.pointer (some ⟨B2, 0, none⟩), .pointer (some ⟨B, 0, none⟩)]) w fun e w' => ∃ (A' : Option Addr) (c' : Nat), e = .returned (.slice A' (fillPx a p d x y wd hg pix i j).length c') ∧ Kd.C (Kd.int .i64) w' A' (fillPx a p d x y wd hg pix i j).length (fillPx a p d x y wd hg pix i j) ∧ (fillPx a p d x y wd hg pix i j).length ≤ c' ∧ Below w.heap.size w w' := by
  have H1 := Aside0.mk h1
  have H2 := Aside0.mk h2
  have HR3 := Aside0.mk hr3
  have HH := Aside0.mk (impl_Box_has_nat x y wd hg i j (by omega) (by omega) (by omega) (by omega))
  have q1 := (blk_cell h2 1).trans rfl; have q2 := (blk_cell h2 2).trans rfl; have q3 := (blk_cell h2 3).trans rfl; have q4 := (blk_cell h2 4).trans rfl
  obtain ⟨A', c', hc', HA⟩ := at_px (x := i) (y := j) A c hv hc hi hj
  have HR := Aside0.mk hr
  unfold fillPx
  cases hin : inBox x y wd hg i j with
  | true =>
    rw [hin] at HH
    simp only [if_true]
    clear HA hr hr3 h1 h2 hv hc hin
    simp only [List.append_toArray, List.cons_append, List.nil_append]
    go_enter Try.func80, Try.ntmps80
    go_wp2_with (first | (go_at_call 81; (with_reducible refine (impl_Box_has.calls (x : Int) (y : Int) (wd : Int) (hg : Int) (i : Int) (j : Int) _ _ HH.out).mono ?_); rintro e w2 ⟨rfl, hb⟩; have k5 := (blk_cell (blk_below H2.out hb) 5).trans rfl))
    go_ret
    exact ⟨A3, c3, rfl, Kd.C_below HR3.out hb, hc3, hb⟩
  | false =>
    rw [hin] at HH
    simp only [Bool.false_eq_true, if_false]
    generalize pxAt a p d i j = px at *
    replace HA := Aside0.mk HA
    clear hr hr3 h1 h2 hv hc hin
    simp only [List.append_toArray, List.cons_append, List.nil_append]
    go_enter Try.func80, Try.ntmps80
    go_wp2_with (first
      | (go_at_call 81; (with_reducible refine (impl_Box_has.calls (x : Int) (y : Int) (wd : Int) (hg : Int) (i : Int) (j : Int) _ _ HH.out).mono ?_); rintro e w2 ⟨rfl, hb⟩; have H12 := blk_below H1.out hb; have HRw := Aside0.mk (Kd.C_below HR.out hb); have k0 := (blk_cell H12 0).trans rfl; have k1 := (blk_cell H12 1).trans rfl; have k2 := (blk_cell H12 2).trans rfl; have k3 := (blk_cell H12 3).trans rfl; have hb2 := Aside0.mk hb; clear hb H12)
      | (go_at_call 55; (with_reducible refine ((HA.out _ HRw.out).2).mono ?_); rintro e w3 ⟨rfl, hb3⟩))
    go_ret
    exact ⟨A', c', rfl, Kd.C_below (HA.out _ HRw.out).1 hb3, hc', below_then hb2.out hb2.out.size hb3⟩

/- impl.doStep: the image that a step makes of a valid image. -/

def doStepV (a b p : Int) (d : List Int) (kind x y wd hg : Int) (pix : List Int) : Int × Int × Int × List Int × Bool :=
  if kind = 0 then (a, b, p, imgD (mirPx a p d) a.toNat b.toNat, true)
  else if kind = 1 then (b, a, p, imgD (turnPx a b p d) b.toNat a.toNat, true)
  else if kind = 2 then (a, b, p, invD d, true)
  else if kind = 3 then (if boxOn a b x y wd hg = true then (wd, hg, p, imgD (cropPx a p d x.toNat y.toNat) wd.toNat hg.toNat, true) else (0, 0, 0, [], false))
  else if kind = 4 then (if boxOn a b x y wd hg = true ∧ (pix.length : Int) = p ∧ pix.all byteI = true then (a, b, p, imgD (fillPx a p d x.toNat y.toNat wd.toNat hg.toNat pix) a.toNat b.toNat, true) else (0, 0, 0, [], false))
  else (0, 0, 0, [], false)
def impl_doStep.f (a b p : Int) (d : List Int) (kind x y wd hg : Int) (pix : List Int) : Option (Int × Int × Int × List Int × Bool) := if validI a b p d = true then some (doStepV a b p d kind x y wd hg pix) else none
set_option maxHeartbeats 4000000 in
set_option maxRecDepth 100000 in
theorem step0 (a b p : Int) (A : Option Addr) (c : Nat) (d : List Int) (x y wd hg : Int) (A3 : Option Addr) (c3 : Nat) (pix : List Int) (w : World) (hr0_3 : Kd.C (Kd.int .i64) w A d.length d) (hc0_3 : d.length ≤ c) (hr3 : Kd.C (Kd.int .i64) w A3 pix.length pix) (hc3 : pix.length ≤ c3) (hv1 : validI a b p d = true) :
    Calls Try.prog 45 #[.agg #[.int .i64 a, .int .i64 b, .int .i64 p, .slice A d.length c], .agg #[.int .i64 0, .int .i64 x, .int .i64 y, .int .i64 wd, .int .i64 hg, .slice A3 pix.length c3]] w fun e w' => ∃ v3_ : Value, e = .returned (.tuple #[.agg #[.int .i64 a, .int .i64 b, .int .i64 p, v3_], .bool true]) ∧ Kd.R (Kd.int .i64) 3 w' w.heap.size (fun _ => True) v3_ (imgD (mirPx a p d) a.toNat b.toNat) ∧ Below w.heap.size w w' := by
  have HC := Aside0.mk hc0_3
  have HR := Aside0.mk hr0_3
  have HC3 := Aside0.mk hc3
  have HR3 := Aside0.mk hr3
  have HB0 := Aside0.mk (Below.refl w.heap.size w)
  have HV := Aside0.mk hv1
  have hu := Try.underlying28
  have hm := hr3.2.1
  clear hr0_3 hc0_3 hr3 hc3
  have E1 := Aside0.mk (show impl_MirrorImage.f a b p d = some (a, b, p, imgD (mirPx a p d) a.toNat b.toNat) from by unfold impl_MirrorImage.f; rw [hv1, if_pos rfl])
  clear hv1
  go_enter Try.func45, Try.ntmps45
  go_wp2_with (first | ((with_reducible refine gate_dst (N := 2) rfl ?_); refine box_event ?hg (N := 2) ?hd (cs := #[.int .i64 a, .int .i64 b, .int .i64 p, .slice A d.length c]) (t := 28) ?hr ?_; (case hd => rfl); (case hg => rfl); (case hr => (go_simp; done)); intro g1 hg_ w1 hbox hb; have HB1 := Aside0.mk (below_then HB0.out HB0.out.size hb); have Kb0 := Aside0.mk hbox; have Gg1 := Aside0.mk (show w.heap.size ≤ g1 from by rw [hg_]; exact HB0.out.size); have Kg1_1 := Aside0.mk hbox; clear hbox hb hg_) | ((with_reducible refine gate_dst (N := 3) rfl ?_); refine box_event ?hg (N := 3) ?hd (cs := #[.int .i64 0, .int .i64 x, .int .i64 y, .int .i64 wd, .int .i64 hg, .slice A3 pix.length c3]) (t := 43) ?hr ?_; (case hd => rfl); (case hg => rfl); (case hr => (go_simp; done)); intro g3 hg_ w2 hbox hb; have HB2 := Aside0.mk (below_then HB1.out HB1.out.size hb); have Kb1 := Aside0.mk hbox; have Gg3 := Aside0.mk (show w.heap.size ≤ g3 from by rw [hg_]; exact HB1.out.size); have Kg1_2 := Aside0.mk (blk_below Kg1_1.out hb); have Kg3_2 := Aside0.mk hbox; clear hbox hb hg_) | ((with_reducible refine gate_dst (N := 4) rfl ?_); refine box_event ?hg (N := 4) ?hd (cs := #[.int .i64 0, .int .i64 0, .int .i64 0, .slice none 0 0]) (t := 28) ?hr ?_; (case hd => rfl); (case hg => rfl); (case hr => (go_simp; done)); intro g2 hg_ w3 hbox hb; have HB3 := Aside0.mk (below_then HB2.out HB2.out.size hb); have Kb2 := Aside0.mk hbox; have Gg2 := Aside0.mk (show w.heap.size ≤ g2 from by rw [hg_]; exact HB2.out.size); have Kg1_3 := Aside0.mk (blk_below Kg1_2.out hb); have Kg3_3 := Aside0.mk (blk_below Kg3_2.out hb); have Kg2_3 := Aside0.mk hbox; have fg1_0 : w3.cell? ⟨g1, 0, none⟩ = some (.int .i64 a) := (blk_cell Kg1_3.out 0).trans rfl; have fg1_1 : w3.cell? ⟨g1, 1, none⟩ = some (.int .i64 b) := (blk_cell Kg1_3.out 1).trans rfl; have fg1_2 : w3.cell? ⟨g1, 2, none⟩ = some (.int .i64 p) := (blk_cell Kg1_3.out 2).trans rfl; have fg1_3 : w3.cell? ⟨g1, 3, none⟩ = some (.slice A d.length c) := (blk_cell Kg1_3.out 3).trans rfl; have fg3_0 : w3.cell? ⟨g3, 0, none⟩ = some (.int .i64 0) := (blk_cell Kg3_3.out 0).trans rfl; have fg3_1 : w3.cell? ⟨g3, 1, none⟩ = some (.int .i64 x) := (blk_cell Kg3_3.out 1).trans rfl; have fg3_2 : w3.cell? ⟨g3, 2, none⟩ = some (.int .i64 y) := (blk_cell Kg3_3.out 2).trans rfl; have fg3_3 : w3.cell? ⟨g3, 3, none⟩ = some (.int .i64 wd) := (blk_cell Kg3_3.out 3).trans rfl; have fg3_4 : w3.cell? ⟨g3, 4, none⟩ = some (.int .i64 hg) := (blk_cell Kg3_3.out 4).trans rfl; have fg3_5 : w3.cell? ⟨g3, 5, none⟩ = some (.slice A3 pix.length c3) := (blk_cell Kg3_3.out 5).trans rfl; have fg2_0 : w3.cell? ⟨g2, 0, none⟩ = some (.int .i64 0) := (blk_cell Kg2_3.out 0).trans rfl; have fg2_1 : w3.cell? ⟨g2, 1, none⟩ = some (.int .i64 0) := (blk_cell Kg2_3.out 1).trans rfl; have fg2_2 : w3.cell? ⟨g2, 2, none⟩ = some (.int .i64 0) := (blk_cell Kg2_3.out 2).trans rfl; have fg2_3 : w3.cell? ⟨g2, 3, none⟩ = some (.slice none 0 0) := (blk_cell Kg2_3.out 3).trans rfl; clear hbox hb hg_) | (go_at_call 25; (with_reducible refine (impl_MirrorImage.calls a b p A c d a b p (imgD (mirPx a p d) a.toNat b.toNat) w3 (Kd.C_below HR.out HB3.out) HC.out E1.out).mono ?_); rintro e w4 ⟨v4, rfl, hr4, hb_⟩; have HB4 := Aside0.mk (below_then HB3.out HB3.out.size hb_); have Kg1_4 := Aside0.mk (blk_below Kg1_3.out hb_); have eg1_4_0 : w4.cell? ⟨g1, 0, none⟩ = some (.int .i64 a) := (blk_cell Kg1_4.out 0).trans rfl; have eg1_4_1 : w4.cell? ⟨g1, 1, none⟩ = some (.int .i64 b) := (blk_cell Kg1_4.out 1).trans rfl; have eg1_4_2 : w4.cell? ⟨g1, 2, none⟩ = some (.int .i64 p) := (blk_cell Kg1_4.out 2).trans rfl; have eg1_4_3 : w4.cell? ⟨g1, 3, none⟩ = some (.slice A d.length c) := (blk_cell Kg1_4.out 3).trans rfl; have Kg3_4 := Aside0.mk (blk_below Kg3_3.out hb_); have eg3_4_0 : w4.cell? ⟨g3, 0, none⟩ = some (.int .i64 0) := (blk_cell Kg3_4.out 0).trans rfl; have eg3_4_1 : w4.cell? ⟨g3, 1, none⟩ = some (.int .i64 x) := (blk_cell Kg3_4.out 1).trans rfl; have eg3_4_2 : w4.cell? ⟨g3, 2, none⟩ = some (.int .i64 y) := (blk_cell Kg3_4.out 2).trans rfl; have eg3_4_3 : w4.cell? ⟨g3, 3, none⟩ = some (.int .i64 wd) := (blk_cell Kg3_4.out 3).trans rfl; have eg3_4_4 : w4.cell? ⟨g3, 4, none⟩ = some (.int .i64 hg) := (blk_cell Kg3_4.out 4).trans rfl; have eg3_4_5 : w4.cell? ⟨g3, 5, none⟩ = some (.slice A3 pix.length c3) := (blk_cell Kg3_4.out 5).trans rfl; have Kg2_4 := Aside0.mk (blk_below Kg2_3.out hb_); have eg2_4_0 : w4.cell? ⟨g2, 0, none⟩ = some (.int .i64 0) := (blk_cell Kg2_4.out 0).trans rfl; have eg2_4_1 : w4.cell? ⟨g2, 1, none⟩ = some (.int .i64 0) := (blk_cell Kg2_4.out 1).trans rfl; have eg2_4_2 : w4.cell? ⟨g2, 2, none⟩ = some (.int .i64 0) := (blk_cell Kg2_4.out 2).trans rfl; have eg2_4_3 : w4.cell? ⟨g2, 3, none⟩ = some (.slice none 0 0) := (blk_cell Kg2_4.out 3).trans rfl; have yg2_4_0 := blk_frozen Kg2_4.out 0; have yg2_4_1 := blk_frozen Kg2_4.out 1; have yg2_4_2 := blk_frozen Kg2_4.out 2; have yg2_4_3 := blk_frozen Kg2_4.out 3; have HR4 := Aside0.mk (Kd.R_lower hr4 HB3.out.size); obtain ⟨A4, c4, ev4⟩ := Kd.R_slice HR4.out; subst ev4; clear hr4 hb_))
  have G2 := Gg2.out
  have RR := Kd.R_types HR4.out Kg2_4.out (by decide)
  refine bodyPost_ret (results_ct rfl _ _ g2 28 #[.int .i64 a, .int .i64 b, .int .i64 p, .slice A4 (imgD (mirPx a p d) a.toNat b.toNat).length c4] (0, 0) _ rfl (by
    refine blk_put (cs := #[.int .i64 a, .int .i64 b, .int .i64 p, .slice none 0 0]) ?_ 3 _ rfl
    refine blk_put (cs := #[.int .i64 a, .int .i64 b, .int .i64 0, .slice none 0 0]) ?_ 2 _ rfl
    refine blk_put (cs := #[.int .i64 a, .int .i64 0, .int .i64 0, .slice none 0 0]) ?_ 1 _ rfl
    refine blk_put (cs := #[.int .i64 0, .int .i64 0, .int .i64 0, .slice none 0 0]) ?_ 0 _ rfl
    exact Kg2_4.out
    ) hu rfl (by kernel_rfl)) rfl ?_
  exact ⟨_, rfl, Kd.R_mono (Kd.R_far (Kd.R_far (Kd.R_far (Kd.R_far RR (fun k hk => hk.2) _) (fun k hk => hk.2) _) (fun k hk => hk.2) _) (fun k hk => hk.2) _) (fun _ _ => trivial), below_set (below_set (below_set (below_set HB4.out (by omega)) (by omega)) (by omega)) (by omega)⟩
set_option maxHeartbeats 4000000 in
set_option maxRecDepth 100000 in
theorem step1 (a b p : Int) (A : Option Addr) (c : Nat) (d : List Int) (x y wd hg : Int) (A3 : Option Addr) (c3 : Nat) (pix : List Int) (w : World) (hr0_3 : Kd.C (Kd.int .i64) w A d.length d) (hc0_3 : d.length ≤ c) (hr3 : Kd.C (Kd.int .i64) w A3 pix.length pix) (hc3 : pix.length ≤ c3) (hv1 : validI a b p d = true) :
    Calls Try.prog 45 #[.agg #[.int .i64 a, .int .i64 b, .int .i64 p, .slice A d.length c], .agg #[.int .i64 1, .int .i64 x, .int .i64 y, .int .i64 wd, .int .i64 hg, .slice A3 pix.length c3]] w fun e w' => ∃ v3_ : Value, e = .returned (.tuple #[.agg #[.int .i64 b, .int .i64 a, .int .i64 p, v3_], .bool true]) ∧ Kd.R (Kd.int .i64) 3 w' w.heap.size (fun _ => True) v3_ (imgD (turnPx a b p d) b.toNat a.toNat) ∧ Below w.heap.size w w' := by
  have HC := Aside0.mk hc0_3
  have HR := Aside0.mk hr0_3
  have HC3 := Aside0.mk hc3
  have HR3 := Aside0.mk hr3
  have HB0 := Aside0.mk (Below.refl w.heap.size w)
  have HV := Aside0.mk hv1
  have hu := Try.underlying28
  have hm := hr3.2.1
  clear hr0_3 hc0_3 hr3 hc3
  have E1 := Aside0.mk (show impl_TurnImage.f a b p d 1 = some (b, a, p, imgD (turnPx a b p d) b.toNat a.toNat) from by unfold impl_TurnImage.f; rw [if_pos rfl, hv1, if_pos rfl])
  clear hv1
  go_enter Try.func45, Try.ntmps45
  go_wp2_with (first | ((with_reducible refine gate_dst (N := 2) rfl ?_); refine box_event ?hg (N := 2) ?hd (cs := #[.int .i64 a, .int .i64 b, .int .i64 p, .slice A d.length c]) (t := 28) ?hr ?_; (case hd => rfl); (case hg => rfl); (case hr => (go_simp; done)); intro g1 hg_ w1 hbox hb; have HB1 := Aside0.mk (below_then HB0.out HB0.out.size hb); have Kb0 := Aside0.mk hbox; have Gg1 := Aside0.mk (show w.heap.size ≤ g1 from by rw [hg_]; exact HB0.out.size); have Kg1_1 := Aside0.mk hbox; clear hbox hb hg_) | ((with_reducible refine gate_dst (N := 3) rfl ?_); refine box_event ?hg (N := 3) ?hd (cs := #[.int .i64 1, .int .i64 x, .int .i64 y, .int .i64 wd, .int .i64 hg, .slice A3 pix.length c3]) (t := 43) ?hr ?_; (case hd => rfl); (case hg => rfl); (case hr => (go_simp; done)); intro g3 hg_ w2 hbox hb; have HB2 := Aside0.mk (below_then HB1.out HB1.out.size hb); have Kb1 := Aside0.mk hbox; have Gg3 := Aside0.mk (show w.heap.size ≤ g3 from by rw [hg_]; exact HB1.out.size); have Kg1_2 := Aside0.mk (blk_below Kg1_1.out hb); have Kg3_2 := Aside0.mk hbox; clear hbox hb hg_) | ((with_reducible refine gate_dst (N := 4) rfl ?_); refine box_event ?hg (N := 4) ?hd (cs := #[.int .i64 0, .int .i64 0, .int .i64 0, .slice none 0 0]) (t := 28) ?hr ?_; (case hd => rfl); (case hg => rfl); (case hr => (go_simp; done)); intro g2 hg_ w3 hbox hb; have HB3 := Aside0.mk (below_then HB2.out HB2.out.size hb); have Kb2 := Aside0.mk hbox; have Gg2 := Aside0.mk (show w.heap.size ≤ g2 from by rw [hg_]; exact HB2.out.size); have Kg1_3 := Aside0.mk (blk_below Kg1_2.out hb); have Kg3_3 := Aside0.mk (blk_below Kg3_2.out hb); have Kg2_3 := Aside0.mk hbox; have fg1_0 : w3.cell? ⟨g1, 0, none⟩ = some (.int .i64 a) := (blk_cell Kg1_3.out 0).trans rfl; have fg1_1 : w3.cell? ⟨g1, 1, none⟩ = some (.int .i64 b) := (blk_cell Kg1_3.out 1).trans rfl; have fg1_2 : w3.cell? ⟨g1, 2, none⟩ = some (.int .i64 p) := (blk_cell Kg1_3.out 2).trans rfl; have fg1_3 : w3.cell? ⟨g1, 3, none⟩ = some (.slice A d.length c) := (blk_cell Kg1_3.out 3).trans rfl; have fg3_0 : w3.cell? ⟨g3, 0, none⟩ = some (.int .i64 1) := (blk_cell Kg3_3.out 0).trans rfl; have fg3_1 : w3.cell? ⟨g3, 1, none⟩ = some (.int .i64 x) := (blk_cell Kg3_3.out 1).trans rfl; have fg3_2 : w3.cell? ⟨g3, 2, none⟩ = some (.int .i64 y) := (blk_cell Kg3_3.out 2).trans rfl; have fg3_3 : w3.cell? ⟨g3, 3, none⟩ = some (.int .i64 wd) := (blk_cell Kg3_3.out 3).trans rfl; have fg3_4 : w3.cell? ⟨g3, 4, none⟩ = some (.int .i64 hg) := (blk_cell Kg3_3.out 4).trans rfl; have fg3_5 : w3.cell? ⟨g3, 5, none⟩ = some (.slice A3 pix.length c3) := (blk_cell Kg3_3.out 5).trans rfl; have fg2_0 : w3.cell? ⟨g2, 0, none⟩ = some (.int .i64 0) := (blk_cell Kg2_3.out 0).trans rfl; have fg2_1 : w3.cell? ⟨g2, 1, none⟩ = some (.int .i64 0) := (blk_cell Kg2_3.out 1).trans rfl; have fg2_2 : w3.cell? ⟨g2, 2, none⟩ = some (.int .i64 0) := (blk_cell Kg2_3.out 2).trans rfl; have fg2_3 : w3.cell? ⟨g2, 3, none⟩ = some (.slice none 0 0) := (blk_cell Kg2_3.out 3).trans rfl; clear hbox hb hg_) | (go_at_call 26; (with_reducible refine (impl_TurnImage.calls a b p A c d 1 b a p (imgD (turnPx a b p d) b.toNat a.toNat) w3 (Kd.C_below HR.out HB3.out) HC.out E1.out).mono ?_); rintro e w4 ⟨v4, rfl, hr4, hb_⟩; have HB4 := Aside0.mk (below_then HB3.out HB3.out.size hb_); have Kg1_4 := Aside0.mk (blk_below Kg1_3.out hb_); have eg1_4_0 : w4.cell? ⟨g1, 0, none⟩ = some (.int .i64 a) := (blk_cell Kg1_4.out 0).trans rfl; have eg1_4_1 : w4.cell? ⟨g1, 1, none⟩ = some (.int .i64 b) := (blk_cell Kg1_4.out 1).trans rfl; have eg1_4_2 : w4.cell? ⟨g1, 2, none⟩ = some (.int .i64 p) := (blk_cell Kg1_4.out 2).trans rfl; have eg1_4_3 : w4.cell? ⟨g1, 3, none⟩ = some (.slice A d.length c) := (blk_cell Kg1_4.out 3).trans rfl; have Kg3_4 := Aside0.mk (blk_below Kg3_3.out hb_); have eg3_4_0 : w4.cell? ⟨g3, 0, none⟩ = some (.int .i64 1) := (blk_cell Kg3_4.out 0).trans rfl; have eg3_4_1 : w4.cell? ⟨g3, 1, none⟩ = some (.int .i64 x) := (blk_cell Kg3_4.out 1).trans rfl; have eg3_4_2 : w4.cell? ⟨g3, 2, none⟩ = some (.int .i64 y) := (blk_cell Kg3_4.out 2).trans rfl; have eg3_4_3 : w4.cell? ⟨g3, 3, none⟩ = some (.int .i64 wd) := (blk_cell Kg3_4.out 3).trans rfl; have eg3_4_4 : w4.cell? ⟨g3, 4, none⟩ = some (.int .i64 hg) := (blk_cell Kg3_4.out 4).trans rfl; have eg3_4_5 : w4.cell? ⟨g3, 5, none⟩ = some (.slice A3 pix.length c3) := (blk_cell Kg3_4.out 5).trans rfl; have Kg2_4 := Aside0.mk (blk_below Kg2_3.out hb_); have eg2_4_0 : w4.cell? ⟨g2, 0, none⟩ = some (.int .i64 0) := (blk_cell Kg2_4.out 0).trans rfl; have eg2_4_1 : w4.cell? ⟨g2, 1, none⟩ = some (.int .i64 0) := (blk_cell Kg2_4.out 1).trans rfl; have eg2_4_2 : w4.cell? ⟨g2, 2, none⟩ = some (.int .i64 0) := (blk_cell Kg2_4.out 2).trans rfl; have eg2_4_3 : w4.cell? ⟨g2, 3, none⟩ = some (.slice none 0 0) := (blk_cell Kg2_4.out 3).trans rfl; have yg2_4_0 := blk_frozen Kg2_4.out 0; have yg2_4_1 := blk_frozen Kg2_4.out 1; have yg2_4_2 := blk_frozen Kg2_4.out 2; have yg2_4_3 := blk_frozen Kg2_4.out 3; have HR4 := Aside0.mk (Kd.R_lower hr4 HB3.out.size); obtain ⟨A4, c4, ev4⟩ := Kd.R_slice HR4.out; subst ev4; clear hr4 hb_))
  have G2 := Gg2.out
  have RR := Kd.R_types HR4.out Kg2_4.out (by decide)
  refine bodyPost_ret (results_ct rfl _ _ g2 28 #[.int .i64 b, .int .i64 a, .int .i64 p, .slice A4 (imgD (turnPx a b p d) b.toNat a.toNat).length c4] (0, 0) _ rfl (by
    refine blk_put (cs := #[.int .i64 b, .int .i64 a, .int .i64 p, .slice none 0 0]) ?_ 3 _ rfl
    refine blk_put (cs := #[.int .i64 b, .int .i64 a, .int .i64 0, .slice none 0 0]) ?_ 2 _ rfl
    refine blk_put (cs := #[.int .i64 b, .int .i64 0, .int .i64 0, .slice none 0 0]) ?_ 1 _ rfl
    refine blk_put (cs := #[.int .i64 0, .int .i64 0, .int .i64 0, .slice none 0 0]) ?_ 0 _ rfl
    exact Kg2_4.out
    ) hu rfl (by kernel_rfl)) rfl ?_
  exact ⟨_, rfl, Kd.R_mono (Kd.R_far (Kd.R_far (Kd.R_far (Kd.R_far RR (fun k hk => hk.2) _) (fun k hk => hk.2) _) (fun k hk => hk.2) _) (fun k hk => hk.2) _) (fun _ _ => trivial), below_set (below_set (below_set (below_set HB4.out (by omega)) (by omega)) (by omega)) (by omega)⟩
set_option maxHeartbeats 4000000 in
set_option maxRecDepth 100000 in
theorem step2 (a b p : Int) (A : Option Addr) (c : Nat) (d : List Int) (x y wd hg : Int) (A3 : Option Addr) (c3 : Nat) (pix : List Int) (w : World) (hr0_3 : Kd.C (Kd.int .i64) w A d.length d) (hc0_3 : d.length ≤ c) (hr3 : Kd.C (Kd.int .i64) w A3 pix.length pix) (hc3 : pix.length ≤ c3) (hv1 : validI a b p d = true) :
    Calls Try.prog 45 #[.agg #[.int .i64 a, .int .i64 b, .int .i64 p, .slice A d.length c], .agg #[.int .i64 2, .int .i64 x, .int .i64 y, .int .i64 wd, .int .i64 hg, .slice A3 pix.length c3]] w fun e w' => ∃ v3_ : Value, e = .returned (.tuple #[.agg #[.int .i64 a, .int .i64 b, .int .i64 p, v3_], .bool true]) ∧ Kd.R (Kd.int .i64) 3 w' w.heap.size (fun _ => True) v3_ (invD d) ∧ Below w.heap.size w w' := by
  have HC := Aside0.mk hc0_3
  have HR := Aside0.mk hr0_3
  have HC3 := Aside0.mk hc3
  have HR3 := Aside0.mk hr3
  have HB0 := Aside0.mk (Below.refl w.heap.size w)
  have HV := Aside0.mk hv1
  have hu := Try.underlying28
  have hm := hr3.2.1
  clear hr0_3 hc0_3 hr3 hc3
  have E1 := Aside0.mk (show impl_InvertImage.f a b p d = some (a, b, p, invD d) from by unfold impl_InvertImage.f; rw [hv1, if_pos rfl])
  clear hv1
  go_enter Try.func45, Try.ntmps45
  go_wp2_with (first | ((with_reducible refine gate_dst (N := 2) rfl ?_); refine box_event ?hg (N := 2) ?hd (cs := #[.int .i64 a, .int .i64 b, .int .i64 p, .slice A d.length c]) (t := 28) ?hr ?_; (case hd => rfl); (case hg => rfl); (case hr => (go_simp; done)); intro g1 hg_ w1 hbox hb; have HB1 := Aside0.mk (below_then HB0.out HB0.out.size hb); have Kb0 := Aside0.mk hbox; have Gg1 := Aside0.mk (show w.heap.size ≤ g1 from by rw [hg_]; exact HB0.out.size); have Kg1_1 := Aside0.mk hbox; clear hbox hb hg_) | ((with_reducible refine gate_dst (N := 3) rfl ?_); refine box_event ?hg (N := 3) ?hd (cs := #[.int .i64 2, .int .i64 x, .int .i64 y, .int .i64 wd, .int .i64 hg, .slice A3 pix.length c3]) (t := 43) ?hr ?_; (case hd => rfl); (case hg => rfl); (case hr => (go_simp; done)); intro g3 hg_ w2 hbox hb; have HB2 := Aside0.mk (below_then HB1.out HB1.out.size hb); have Kb1 := Aside0.mk hbox; have Gg3 := Aside0.mk (show w.heap.size ≤ g3 from by rw [hg_]; exact HB1.out.size); have Kg1_2 := Aside0.mk (blk_below Kg1_1.out hb); have Kg3_2 := Aside0.mk hbox; clear hbox hb hg_) | ((with_reducible refine gate_dst (N := 4) rfl ?_); refine box_event ?hg (N := 4) ?hd (cs := #[.int .i64 0, .int .i64 0, .int .i64 0, .slice none 0 0]) (t := 28) ?hr ?_; (case hd => rfl); (case hg => rfl); (case hr => (go_simp; done)); intro g2 hg_ w3 hbox hb; have HB3 := Aside0.mk (below_then HB2.out HB2.out.size hb); have Kb2 := Aside0.mk hbox; have Gg2 := Aside0.mk (show w.heap.size ≤ g2 from by rw [hg_]; exact HB2.out.size); have Kg1_3 := Aside0.mk (blk_below Kg1_2.out hb); have Kg3_3 := Aside0.mk (blk_below Kg3_2.out hb); have Kg2_3 := Aside0.mk hbox; have fg1_0 : w3.cell? ⟨g1, 0, none⟩ = some (.int .i64 a) := (blk_cell Kg1_3.out 0).trans rfl; have fg1_1 : w3.cell? ⟨g1, 1, none⟩ = some (.int .i64 b) := (blk_cell Kg1_3.out 1).trans rfl; have fg1_2 : w3.cell? ⟨g1, 2, none⟩ = some (.int .i64 p) := (blk_cell Kg1_3.out 2).trans rfl; have fg1_3 : w3.cell? ⟨g1, 3, none⟩ = some (.slice A d.length c) := (blk_cell Kg1_3.out 3).trans rfl; have fg3_0 : w3.cell? ⟨g3, 0, none⟩ = some (.int .i64 2) := (blk_cell Kg3_3.out 0).trans rfl; have fg3_1 : w3.cell? ⟨g3, 1, none⟩ = some (.int .i64 x) := (blk_cell Kg3_3.out 1).trans rfl; have fg3_2 : w3.cell? ⟨g3, 2, none⟩ = some (.int .i64 y) := (blk_cell Kg3_3.out 2).trans rfl; have fg3_3 : w3.cell? ⟨g3, 3, none⟩ = some (.int .i64 wd) := (blk_cell Kg3_3.out 3).trans rfl; have fg3_4 : w3.cell? ⟨g3, 4, none⟩ = some (.int .i64 hg) := (blk_cell Kg3_3.out 4).trans rfl; have fg3_5 : w3.cell? ⟨g3, 5, none⟩ = some (.slice A3 pix.length c3) := (blk_cell Kg3_3.out 5).trans rfl; have fg2_0 : w3.cell? ⟨g2, 0, none⟩ = some (.int .i64 0) := (blk_cell Kg2_3.out 0).trans rfl; have fg2_1 : w3.cell? ⟨g2, 1, none⟩ = some (.int .i64 0) := (blk_cell Kg2_3.out 1).trans rfl; have fg2_2 : w3.cell? ⟨g2, 2, none⟩ = some (.int .i64 0) := (blk_cell Kg2_3.out 2).trans rfl; have fg2_3 : w3.cell? ⟨g2, 3, none⟩ = some (.slice none 0 0) := (blk_cell Kg2_3.out 3).trans rfl; clear hbox hb hg_) | (go_at_call 27; (with_reducible refine (impl_InvertImage.calls a b p A c d a b p (invD d) w3 (Kd.C_below HR.out HB3.out) HC.out E1.out).mono ?_); rintro e w4 ⟨v4, rfl, hr4, hb_⟩; have HB4 := Aside0.mk (below_then HB3.out HB3.out.size hb_); have Kg1_4 := Aside0.mk (blk_below Kg1_3.out hb_); have eg1_4_0 : w4.cell? ⟨g1, 0, none⟩ = some (.int .i64 a) := (blk_cell Kg1_4.out 0).trans rfl; have eg1_4_1 : w4.cell? ⟨g1, 1, none⟩ = some (.int .i64 b) := (blk_cell Kg1_4.out 1).trans rfl; have eg1_4_2 : w4.cell? ⟨g1, 2, none⟩ = some (.int .i64 p) := (blk_cell Kg1_4.out 2).trans rfl; have eg1_4_3 : w4.cell? ⟨g1, 3, none⟩ = some (.slice A d.length c) := (blk_cell Kg1_4.out 3).trans rfl; have Kg3_4 := Aside0.mk (blk_below Kg3_3.out hb_); have eg3_4_0 : w4.cell? ⟨g3, 0, none⟩ = some (.int .i64 2) := (blk_cell Kg3_4.out 0).trans rfl; have eg3_4_1 : w4.cell? ⟨g3, 1, none⟩ = some (.int .i64 x) := (blk_cell Kg3_4.out 1).trans rfl; have eg3_4_2 : w4.cell? ⟨g3, 2, none⟩ = some (.int .i64 y) := (blk_cell Kg3_4.out 2).trans rfl; have eg3_4_3 : w4.cell? ⟨g3, 3, none⟩ = some (.int .i64 wd) := (blk_cell Kg3_4.out 3).trans rfl; have eg3_4_4 : w4.cell? ⟨g3, 4, none⟩ = some (.int .i64 hg) := (blk_cell Kg3_4.out 4).trans rfl; have eg3_4_5 : w4.cell? ⟨g3, 5, none⟩ = some (.slice A3 pix.length c3) := (blk_cell Kg3_4.out 5).trans rfl; have Kg2_4 := Aside0.mk (blk_below Kg2_3.out hb_); have eg2_4_0 : w4.cell? ⟨g2, 0, none⟩ = some (.int .i64 0) := (blk_cell Kg2_4.out 0).trans rfl; have eg2_4_1 : w4.cell? ⟨g2, 1, none⟩ = some (.int .i64 0) := (blk_cell Kg2_4.out 1).trans rfl; have eg2_4_2 : w4.cell? ⟨g2, 2, none⟩ = some (.int .i64 0) := (blk_cell Kg2_4.out 2).trans rfl; have eg2_4_3 : w4.cell? ⟨g2, 3, none⟩ = some (.slice none 0 0) := (blk_cell Kg2_4.out 3).trans rfl; have yg2_4_0 := blk_frozen Kg2_4.out 0; have yg2_4_1 := blk_frozen Kg2_4.out 1; have yg2_4_2 := blk_frozen Kg2_4.out 2; have yg2_4_3 := blk_frozen Kg2_4.out 3; have HR4 := Aside0.mk (Kd.R_lower hr4 HB3.out.size); obtain ⟨A4, c4, ev4⟩ := Kd.R_slice HR4.out; subst ev4; clear hr4 hb_))
  have G2 := Gg2.out
  have RR := Kd.R_types HR4.out Kg2_4.out (by decide)
  refine bodyPost_ret (results_ct rfl _ _ g2 28 #[.int .i64 a, .int .i64 b, .int .i64 p, .slice A4 (invD d).length c4] (0, 0) _ rfl (by
    refine blk_put (cs := #[.int .i64 a, .int .i64 b, .int .i64 p, .slice none 0 0]) ?_ 3 _ rfl
    refine blk_put (cs := #[.int .i64 a, .int .i64 b, .int .i64 0, .slice none 0 0]) ?_ 2 _ rfl
    refine blk_put (cs := #[.int .i64 a, .int .i64 0, .int .i64 0, .slice none 0 0]) ?_ 1 _ rfl
    refine blk_put (cs := #[.int .i64 0, .int .i64 0, .int .i64 0, .slice none 0 0]) ?_ 0 _ rfl
    exact Kg2_4.out
    ) hu rfl (by kernel_rfl)) rfl ?_
  exact ⟨_, rfl, Kd.R_mono (Kd.R_far (Kd.R_far (Kd.R_far (Kd.R_far RR (fun k hk => hk.2) _) (fun k hk => hk.2) _) (fun k hk => hk.2) _) (fun k hk => hk.2) _) (fun _ _ => trivial), below_set (below_set (below_set (below_set HB4.out (by omega)) (by omega)) (by omega)) (by omega)⟩
set_option maxHeartbeats 4000000 in
set_option maxRecDepth 100000 in
theorem step3_yes (a b p : Int) (A : Option Addr) (c : Nat) (d : List Int) (x y wd hg : Int) (A3 : Option Addr) (c3 : Nat) (pix : List Int) (w : World) (hr0_3 : Kd.C (Kd.int .i64) w A d.length d) (hc0_3 : d.length ≤ c) (hr3 : Kd.C (Kd.int .i64) w A3 pix.length pix) (hc3 : pix.length ≤ c3) (hv1 : validI a b p d = true) (hv2 : boxOn a b x y wd hg = true) :
    Calls Try.prog 45 #[.agg #[.int .i64 a, .int .i64 b, .int .i64 p, .slice A d.length c], .agg #[.int .i64 3, .int .i64 x, .int .i64 y, .int .i64 wd, .int .i64 hg, .slice A3 pix.length c3]] w fun e w' => ∃ v3_ : Value, e = .returned (.tuple #[.agg #[.int .i64 wd, .int .i64 hg, .int .i64 p, v3_], .bool true]) ∧ Kd.R (Kd.int .i64) 3 w' w.heap.size (fun _ => True) v3_ (imgD (cropPx a p d x.toNat y.toNat) wd.toNat hg.toNat) ∧ Below w.heap.size w w' := by
  have HC := Aside0.mk hc0_3
  have HR := Aside0.mk hr0_3
  have HC3 := Aside0.mk hc3
  have HR3 := Aside0.mk hr3
  have HB0 := Aside0.mk (Below.refl w.heap.size w)
  have HV := Aside0.mk hv1
  have hu := Try.underlying28
  have hm := hr3.2.1
  clear hr0_3 hc0_3 hr3 hc3
  have E1 := Aside0.mk (show impl_CropImage.f a b p d x y wd hg = some (wd, hg, p, imgD (cropPx a p d x.toNat y.toNat) wd.toNat hg.toNat, true) from by unfold impl_CropImage.f; rw [hv1, hv2, if_pos ⟨rfl, rfl⟩])
  clear hv1 hv2
  go_enter Try.func45, Try.ntmps45
  go_wp2_with (first | ((with_reducible refine gate_dst (N := 2) rfl ?_); refine box_event ?hg (N := 2) ?hd (cs := #[.int .i64 a, .int .i64 b, .int .i64 p, .slice A d.length c]) (t := 28) ?hr ?_; (case hd => rfl); (case hg => rfl); (case hr => (go_simp; done)); intro g1 hg_ w1 hbox hb; have HB1 := Aside0.mk (below_then HB0.out HB0.out.size hb); have Kb0 := Aside0.mk hbox; have Gg1 := Aside0.mk (show w.heap.size ≤ g1 from by rw [hg_]; exact HB0.out.size); have Kg1_1 := Aside0.mk hbox; clear hbox hb hg_) | ((with_reducible refine gate_dst (N := 3) rfl ?_); refine box_event ?hg (N := 3) ?hd (cs := #[.int .i64 3, .int .i64 x, .int .i64 y, .int .i64 wd, .int .i64 hg, .slice A3 pix.length c3]) (t := 43) ?hr ?_; (case hd => rfl); (case hg => rfl); (case hr => (go_simp; done)); intro g3 hg_ w2 hbox hb; have HB2 := Aside0.mk (below_then HB1.out HB1.out.size hb); have Kb1 := Aside0.mk hbox; have Gg3 := Aside0.mk (show w.heap.size ≤ g3 from by rw [hg_]; exact HB1.out.size); have Kg1_2 := Aside0.mk (blk_below Kg1_1.out hb); have Kg3_2 := Aside0.mk hbox; clear hbox hb hg_) | ((with_reducible refine gate_dst (N := 4) rfl ?_); refine box_event ?hg (N := 4) ?hd (cs := #[.int .i64 0, .int .i64 0, .int .i64 0, .slice none 0 0]) (t := 28) ?hr ?_; (case hd => rfl); (case hg => rfl); (case hr => (go_simp; done)); intro g2 hg_ w3 hbox hb; have HB3 := Aside0.mk (below_then HB2.out HB2.out.size hb); have Kb2 := Aside0.mk hbox; have Gg2 := Aside0.mk (show w.heap.size ≤ g2 from by rw [hg_]; exact HB2.out.size); have Kg1_3 := Aside0.mk (blk_below Kg1_2.out hb); have Kg3_3 := Aside0.mk (blk_below Kg3_2.out hb); have Kg2_3 := Aside0.mk hbox; have fg1_0 : w3.cell? ⟨g1, 0, none⟩ = some (.int .i64 a) := (blk_cell Kg1_3.out 0).trans rfl; have fg1_1 : w3.cell? ⟨g1, 1, none⟩ = some (.int .i64 b) := (blk_cell Kg1_3.out 1).trans rfl; have fg1_2 : w3.cell? ⟨g1, 2, none⟩ = some (.int .i64 p) := (blk_cell Kg1_3.out 2).trans rfl; have fg1_3 : w3.cell? ⟨g1, 3, none⟩ = some (.slice A d.length c) := (blk_cell Kg1_3.out 3).trans rfl; have fg3_0 : w3.cell? ⟨g3, 0, none⟩ = some (.int .i64 3) := (blk_cell Kg3_3.out 0).trans rfl; have fg3_1 : w3.cell? ⟨g3, 1, none⟩ = some (.int .i64 x) := (blk_cell Kg3_3.out 1).trans rfl; have fg3_2 : w3.cell? ⟨g3, 2, none⟩ = some (.int .i64 y) := (blk_cell Kg3_3.out 2).trans rfl; have fg3_3 : w3.cell? ⟨g3, 3, none⟩ = some (.int .i64 wd) := (blk_cell Kg3_3.out 3).trans rfl; have fg3_4 : w3.cell? ⟨g3, 4, none⟩ = some (.int .i64 hg) := (blk_cell Kg3_3.out 4).trans rfl; have fg3_5 : w3.cell? ⟨g3, 5, none⟩ = some (.slice A3 pix.length c3) := (blk_cell Kg3_3.out 5).trans rfl; have fg2_0 : w3.cell? ⟨g2, 0, none⟩ = some (.int .i64 0) := (blk_cell Kg2_3.out 0).trans rfl; have fg2_1 : w3.cell? ⟨g2, 1, none⟩ = some (.int .i64 0) := (blk_cell Kg2_3.out 1).trans rfl; have fg2_2 : w3.cell? ⟨g2, 2, none⟩ = some (.int .i64 0) := (blk_cell Kg2_3.out 2).trans rfl; have fg2_3 : w3.cell? ⟨g2, 3, none⟩ = some (.slice none 0 0) := (blk_cell Kg2_3.out 3).trans rfl; clear hbox hb hg_) | (go_at_call 29; (with_reducible refine (impl_CropImage.calls a b p A c d x y wd hg wd hg p (imgD (cropPx a p d x.toNat y.toNat) wd.toNat hg.toNat) true w3 (Kd.C_below HR.out HB3.out) HC.out E1.out).mono ?_); rintro e w4 ⟨v4, rfl, hr4, hb_⟩; have HB4 := Aside0.mk (below_then HB3.out HB3.out.size hb_); have Kg1_4 := Aside0.mk (blk_below Kg1_3.out hb_); have eg1_4_0 : w4.cell? ⟨g1, 0, none⟩ = some (.int .i64 a) := (blk_cell Kg1_4.out 0).trans rfl; have eg1_4_1 : w4.cell? ⟨g1, 1, none⟩ = some (.int .i64 b) := (blk_cell Kg1_4.out 1).trans rfl; have eg1_4_2 : w4.cell? ⟨g1, 2, none⟩ = some (.int .i64 p) := (blk_cell Kg1_4.out 2).trans rfl; have eg1_4_3 : w4.cell? ⟨g1, 3, none⟩ = some (.slice A d.length c) := (blk_cell Kg1_4.out 3).trans rfl; have Kg3_4 := Aside0.mk (blk_below Kg3_3.out hb_); have eg3_4_0 : w4.cell? ⟨g3, 0, none⟩ = some (.int .i64 3) := (blk_cell Kg3_4.out 0).trans rfl; have eg3_4_1 : w4.cell? ⟨g3, 1, none⟩ = some (.int .i64 x) := (blk_cell Kg3_4.out 1).trans rfl; have eg3_4_2 : w4.cell? ⟨g3, 2, none⟩ = some (.int .i64 y) := (blk_cell Kg3_4.out 2).trans rfl; have eg3_4_3 : w4.cell? ⟨g3, 3, none⟩ = some (.int .i64 wd) := (blk_cell Kg3_4.out 3).trans rfl; have eg3_4_4 : w4.cell? ⟨g3, 4, none⟩ = some (.int .i64 hg) := (blk_cell Kg3_4.out 4).trans rfl; have eg3_4_5 : w4.cell? ⟨g3, 5, none⟩ = some (.slice A3 pix.length c3) := (blk_cell Kg3_4.out 5).trans rfl; have Kg2_4 := Aside0.mk (blk_below Kg2_3.out hb_); have eg2_4_0 : w4.cell? ⟨g2, 0, none⟩ = some (.int .i64 0) := (blk_cell Kg2_4.out 0).trans rfl; have eg2_4_1 : w4.cell? ⟨g2, 1, none⟩ = some (.int .i64 0) := (blk_cell Kg2_4.out 1).trans rfl; have eg2_4_2 : w4.cell? ⟨g2, 2, none⟩ = some (.int .i64 0) := (blk_cell Kg2_4.out 2).trans rfl; have eg2_4_3 : w4.cell? ⟨g2, 3, none⟩ = some (.slice none 0 0) := (blk_cell Kg2_4.out 3).trans rfl; have yg2_4_0 := blk_frozen Kg2_4.out 0; have yg2_4_1 := blk_frozen Kg2_4.out 1; have yg2_4_2 := blk_frozen Kg2_4.out 2; have yg2_4_3 := blk_frozen Kg2_4.out 3; have HR4 := Aside0.mk (Kd.R_lower hr4 HB3.out.size); obtain ⟨A4, c4, ev4⟩ := Kd.R_slice HR4.out; subst ev4; clear hr4 hb_))
  have G2 := Gg2.out
  have RR := Kd.R_types HR4.out Kg2_4.out (by decide)
  refine bodyPost_ret (results_ct rfl _ _ g2 28 #[.int .i64 wd, .int .i64 hg, .int .i64 p, .slice A4 (imgD (cropPx a p d x.toNat y.toNat) wd.toNat hg.toNat).length c4] (0, 0) _ rfl (by
    refine blk_put (cs := #[.int .i64 wd, .int .i64 hg, .int .i64 p, .slice none 0 0]) ?_ 3 _ rfl
    refine blk_put (cs := #[.int .i64 wd, .int .i64 hg, .int .i64 0, .slice none 0 0]) ?_ 2 _ rfl
    refine blk_put (cs := #[.int .i64 wd, .int .i64 0, .int .i64 0, .slice none 0 0]) ?_ 1 _ rfl
    refine blk_put (cs := #[.int .i64 0, .int .i64 0, .int .i64 0, .slice none 0 0]) ?_ 0 _ rfl
    exact Kg2_4.out
    ) hu rfl (by kernel_rfl)) rfl ?_
  exact ⟨_, rfl, Kd.R_mono (Kd.R_far (Kd.R_far (Kd.R_far (Kd.R_far RR (fun k hk => hk.2) _) (fun k hk => hk.2) _) (fun k hk => hk.2) _) (fun k hk => hk.2) _) (fun _ _ => trivial), below_set (below_set (below_set (below_set HB4.out (by omega)) (by omega)) (by omega)) (by omega)⟩
set_option maxHeartbeats 4000000 in
set_option maxRecDepth 100000 in
theorem step3_no (a b p : Int) (A : Option Addr) (c : Nat) (d : List Int) (x y wd hg : Int) (A3 : Option Addr) (c3 : Nat) (pix : List Int) (w : World) (hr0_3 : Kd.C (Kd.int .i64) w A d.length d) (hc0_3 : d.length ≤ c) (hr3 : Kd.C (Kd.int .i64) w A3 pix.length pix) (hc3 : pix.length ≤ c3) (hv1 : validI a b p d = true) (hv2 : boxOn a b x y wd hg = false) :
    Calls Try.prog 45 #[.agg #[.int .i64 a, .int .i64 b, .int .i64 p, .slice A d.length c], .agg #[.int .i64 3, .int .i64 x, .int .i64 y, .int .i64 wd, .int .i64 hg, .slice A3 pix.length c3]] w fun e w' => ∃ v3_ : Value, e = .returned (.tuple #[.agg #[.int .i64 0, .int .i64 0, .int .i64 0, v3_], .bool false]) ∧ Kd.R (Kd.int .i64) 3 w' w.heap.size (fun _ => True) v3_ [] ∧ Below w.heap.size w w' := by
  have HC := Aside0.mk hc0_3
  have HR := Aside0.mk hr0_3
  have HC3 := Aside0.mk hc3
  have HR3 := Aside0.mk hr3
  have HB0 := Aside0.mk (Below.refl w.heap.size w)
  have HV := Aside0.mk hv1
  have hu := Try.underlying28
  have hm := hr3.2.1
  clear hr0_3 hc0_3 hr3 hc3
  have E1 := Aside0.mk (show impl_CropImage.f a b p d x y wd hg = some (0, 0, 0, [], false) from by unfold impl_CropImage.f; rw [hv1, hv2, if_neg (by simp)])
  clear hv1 hv2
  go_enter Try.func45, Try.ntmps45
  go_wp2_with (first | ((with_reducible refine gate_dst (N := 2) rfl ?_); refine box_event ?hg (N := 2) ?hd (cs := #[.int .i64 a, .int .i64 b, .int .i64 p, .slice A d.length c]) (t := 28) ?hr ?_; (case hd => rfl); (case hg => rfl); (case hr => (go_simp; done)); intro g1 hg_ w1 hbox hb; have HB1 := Aside0.mk (below_then HB0.out HB0.out.size hb); have Kb0 := Aside0.mk hbox; have Gg1 := Aside0.mk (show w.heap.size ≤ g1 from by rw [hg_]; exact HB0.out.size); have Kg1_1 := Aside0.mk hbox; clear hbox hb hg_) | ((with_reducible refine gate_dst (N := 3) rfl ?_); refine box_event ?hg (N := 3) ?hd (cs := #[.int .i64 3, .int .i64 x, .int .i64 y, .int .i64 wd, .int .i64 hg, .slice A3 pix.length c3]) (t := 43) ?hr ?_; (case hd => rfl); (case hg => rfl); (case hr => (go_simp; done)); intro g3 hg_ w2 hbox hb; have HB2 := Aside0.mk (below_then HB1.out HB1.out.size hb); have Kb1 := Aside0.mk hbox; have Gg3 := Aside0.mk (show w.heap.size ≤ g3 from by rw [hg_]; exact HB1.out.size); have Kg1_2 := Aside0.mk (blk_below Kg1_1.out hb); have Kg3_2 := Aside0.mk hbox; clear hbox hb hg_) | ((with_reducible refine gate_dst (N := 4) rfl ?_); refine box_event ?hg (N := 4) ?hd (cs := #[.int .i64 0, .int .i64 0, .int .i64 0, .slice none 0 0]) (t := 28) ?hr ?_; (case hd => rfl); (case hg => rfl); (case hr => (go_simp; done)); intro g2 hg_ w3 hbox hb; have HB3 := Aside0.mk (below_then HB2.out HB2.out.size hb); have Kb2 := Aside0.mk hbox; have Gg2 := Aside0.mk (show w.heap.size ≤ g2 from by rw [hg_]; exact HB2.out.size); have Kg1_3 := Aside0.mk (blk_below Kg1_2.out hb); have Kg3_3 := Aside0.mk (blk_below Kg3_2.out hb); have Kg2_3 := Aside0.mk hbox; have fg1_0 : w3.cell? ⟨g1, 0, none⟩ = some (.int .i64 a) := (blk_cell Kg1_3.out 0).trans rfl; have fg1_1 : w3.cell? ⟨g1, 1, none⟩ = some (.int .i64 b) := (blk_cell Kg1_3.out 1).trans rfl; have fg1_2 : w3.cell? ⟨g1, 2, none⟩ = some (.int .i64 p) := (blk_cell Kg1_3.out 2).trans rfl; have fg1_3 : w3.cell? ⟨g1, 3, none⟩ = some (.slice A d.length c) := (blk_cell Kg1_3.out 3).trans rfl; have fg3_0 : w3.cell? ⟨g3, 0, none⟩ = some (.int .i64 3) := (blk_cell Kg3_3.out 0).trans rfl; have fg3_1 : w3.cell? ⟨g3, 1, none⟩ = some (.int .i64 x) := (blk_cell Kg3_3.out 1).trans rfl; have fg3_2 : w3.cell? ⟨g3, 2, none⟩ = some (.int .i64 y) := (blk_cell Kg3_3.out 2).trans rfl; have fg3_3 : w3.cell? ⟨g3, 3, none⟩ = some (.int .i64 wd) := (blk_cell Kg3_3.out 3).trans rfl; have fg3_4 : w3.cell? ⟨g3, 4, none⟩ = some (.int .i64 hg) := (blk_cell Kg3_3.out 4).trans rfl; have fg3_5 : w3.cell? ⟨g3, 5, none⟩ = some (.slice A3 pix.length c3) := (blk_cell Kg3_3.out 5).trans rfl; have fg2_0 : w3.cell? ⟨g2, 0, none⟩ = some (.int .i64 0) := (blk_cell Kg2_3.out 0).trans rfl; have fg2_1 : w3.cell? ⟨g2, 1, none⟩ = some (.int .i64 0) := (blk_cell Kg2_3.out 1).trans rfl; have fg2_2 : w3.cell? ⟨g2, 2, none⟩ = some (.int .i64 0) := (blk_cell Kg2_3.out 2).trans rfl; have fg2_3 : w3.cell? ⟨g2, 3, none⟩ = some (.slice none 0 0) := (blk_cell Kg2_3.out 3).trans rfl; clear hbox hb hg_) | (go_at_call 29; (with_reducible refine (impl_CropImage.calls a b p A c d x y wd hg 0 0 0 [] false w3 (Kd.C_below HR.out HB3.out) HC.out E1.out).mono ?_); rintro e w4 ⟨v4, rfl, hr4, hb_⟩; have HB4 := Aside0.mk (below_then HB3.out HB3.out.size hb_); have Kg1_4 := Aside0.mk (blk_below Kg1_3.out hb_); have eg1_4_0 : w4.cell? ⟨g1, 0, none⟩ = some (.int .i64 a) := (blk_cell Kg1_4.out 0).trans rfl; have eg1_4_1 : w4.cell? ⟨g1, 1, none⟩ = some (.int .i64 b) := (blk_cell Kg1_4.out 1).trans rfl; have eg1_4_2 : w4.cell? ⟨g1, 2, none⟩ = some (.int .i64 p) := (blk_cell Kg1_4.out 2).trans rfl; have eg1_4_3 : w4.cell? ⟨g1, 3, none⟩ = some (.slice A d.length c) := (blk_cell Kg1_4.out 3).trans rfl; have Kg3_4 := Aside0.mk (blk_below Kg3_3.out hb_); have eg3_4_0 : w4.cell? ⟨g3, 0, none⟩ = some (.int .i64 3) := (blk_cell Kg3_4.out 0).trans rfl; have eg3_4_1 : w4.cell? ⟨g3, 1, none⟩ = some (.int .i64 x) := (blk_cell Kg3_4.out 1).trans rfl; have eg3_4_2 : w4.cell? ⟨g3, 2, none⟩ = some (.int .i64 y) := (blk_cell Kg3_4.out 2).trans rfl; have eg3_4_3 : w4.cell? ⟨g3, 3, none⟩ = some (.int .i64 wd) := (blk_cell Kg3_4.out 3).trans rfl; have eg3_4_4 : w4.cell? ⟨g3, 4, none⟩ = some (.int .i64 hg) := (blk_cell Kg3_4.out 4).trans rfl; have eg3_4_5 : w4.cell? ⟨g3, 5, none⟩ = some (.slice A3 pix.length c3) := (blk_cell Kg3_4.out 5).trans rfl; have Kg2_4 := Aside0.mk (blk_below Kg2_3.out hb_); have eg2_4_0 : w4.cell? ⟨g2, 0, none⟩ = some (.int .i64 0) := (blk_cell Kg2_4.out 0).trans rfl; have eg2_4_1 : w4.cell? ⟨g2, 1, none⟩ = some (.int .i64 0) := (blk_cell Kg2_4.out 1).trans rfl; have eg2_4_2 : w4.cell? ⟨g2, 2, none⟩ = some (.int .i64 0) := (blk_cell Kg2_4.out 2).trans rfl; have eg2_4_3 : w4.cell? ⟨g2, 3, none⟩ = some (.slice none 0 0) := (blk_cell Kg2_4.out 3).trans rfl; have yg2_4_0 := blk_frozen Kg2_4.out 0; have yg2_4_1 := blk_frozen Kg2_4.out 1; have yg2_4_2 := blk_frozen Kg2_4.out 2; have yg2_4_3 := blk_frozen Kg2_4.out 3; have HR4 := Aside0.mk (Kd.R_lower hr4 HB3.out.size); obtain ⟨A4, c4, ev4⟩ := Kd.R_slice HR4.out; subst ev4; clear hr4 hb_))
  have G2 := Gg2.out
  have RR := Kd.R_types HR4.out Kg2_4.out (by decide)
  refine bodyPost_ret (results_ct rfl _ _ g2 28 #[.int .i64 0, .int .i64 0, .int .i64 0, .slice A4 0 c4] (0, 0) _ rfl (by
    refine blk_put (cs := #[.int .i64 0, .int .i64 0, .int .i64 0, .slice none 0 0]) ?_ 3 _ rfl
    refine blk_put (cs := #[.int .i64 0, .int .i64 0, .int .i64 0, .slice none 0 0]) ?_ 2 _ rfl
    refine blk_put (cs := #[.int .i64 0, .int .i64 0, .int .i64 0, .slice none 0 0]) ?_ 1 _ rfl
    refine blk_put (cs := #[.int .i64 0, .int .i64 0, .int .i64 0, .slice none 0 0]) ?_ 0 _ rfl
    exact Kg2_4.out
    ) hu rfl (by kernel_rfl)) rfl ?_
  exact ⟨_, rfl, Kd.R_mono (Kd.R_far (Kd.R_far (Kd.R_far (Kd.R_far RR (fun k hk => hk.2) _) (fun k hk => hk.2) _) (fun k hk => hk.2) _) (fun k hk => hk.2) _) (fun _ _ => trivial), below_set (below_set (below_set (below_set HB4.out (by omega)) (by omega)) (by omega)) (by omega)⟩
set_option maxHeartbeats 4000000 in
set_option maxRecDepth 100000 in
theorem step4_no1 (a b p : Int) (A : Option Addr) (c : Nat) (d : List Int) (x y wd hg : Int) (A3 : Option Addr) (c3 : Nat) (pix : List Int) (w : World) (hr0_3 : Kd.C (Kd.int .i64) w A d.length d) (hc0_3 : d.length ≤ c) (hr3 : Kd.C (Kd.int .i64) w A3 pix.length pix) (hc3 : pix.length ≤ c3) (hv1 : validI a b p d = true) (hv2 : boxOn a b x y wd hg = false) :
    Calls Try.prog 45 #[.agg #[.int .i64 a, .int .i64 b, .int .i64 p, .slice A d.length c], .agg #[.int .i64 4, .int .i64 x, .int .i64 y, .int .i64 wd, .int .i64 hg, .slice A3 pix.length c3]] w fun e w' => ∃ v3_ : Value, e = .returned (.tuple #[.agg #[.int .i64 0, .int .i64 0, .int .i64 0, v3_], .bool false]) ∧ Kd.R (Kd.int .i64) 3 w' w.heap.size (fun _ => True) v3_ [] ∧ Below w.heap.size w w' := by
  have HC := Aside0.mk hc0_3
  have HR := Aside0.mk hr0_3
  have HC3 := Aside0.mk hc3
  have HR3 := Aside0.mk hr3
  have HB0 := Aside0.mk (Below.refl w.heap.size w)
  have HV := Aside0.mk hv1
  have hu := Try.underlying28
  have hm := hr3.2.1
  clear hr0_3 hc0_3 hr3 hc3
  have E2 := Aside0.mk (impl_isBoxOn_eq hv1 x y wd hg)
  rw [hv2] at E2
  clear hv1 hv2
  go_enter Try.func45, Try.ntmps45
  go_wp2_with (first | ((with_reducible refine gate_dst (N := 2) rfl ?_); refine box_event ?hg (N := 2) ?hd (cs := #[.int .i64 a, .int .i64 b, .int .i64 p, .slice A d.length c]) (t := 28) ?hr ?_; (case hd => rfl); (case hg => rfl); (case hr => (go_simp; done)); intro g1 hg_ w1 hbox hb; have HB1 := Aside0.mk (below_then HB0.out HB0.out.size hb); have Kb0 := Aside0.mk hbox; have Gg1 := Aside0.mk (show w.heap.size ≤ g1 from by rw [hg_]; exact HB0.out.size); have Kg1_1 := Aside0.mk hbox; clear hbox hb hg_) | ((with_reducible refine gate_dst (N := 3) rfl ?_); refine box_event ?hg (N := 3) ?hd (cs := #[.int .i64 4, .int .i64 x, .int .i64 y, .int .i64 wd, .int .i64 hg, .slice A3 pix.length c3]) (t := 43) ?hr ?_; (case hd => rfl); (case hg => rfl); (case hr => (go_simp; done)); intro g3 hg_ w2 hbox hb; have HB2 := Aside0.mk (below_then HB1.out HB1.out.size hb); have Kb1 := Aside0.mk hbox; have Gg3 := Aside0.mk (show w.heap.size ≤ g3 from by rw [hg_]; exact HB1.out.size); have Kg1_2 := Aside0.mk (blk_below Kg1_1.out hb); have Kg3_2 := Aside0.mk hbox; clear hbox hb hg_) | ((with_reducible refine gate_dst (N := 4) rfl ?_); refine box_event ?hg (N := 4) ?hd (cs := #[.int .i64 0, .int .i64 0, .int .i64 0, .slice none 0 0]) (t := 28) ?hr ?_; (case hd => rfl); (case hg => rfl); (case hr => (go_simp; done)); intro g2 hg_ w3 hbox hb; have HB3 := Aside0.mk (below_then HB2.out HB2.out.size hb); have Kb2 := Aside0.mk hbox; have Gg2 := Aside0.mk (show w.heap.size ≤ g2 from by rw [hg_]; exact HB2.out.size); have Kg1_3 := Aside0.mk (blk_below Kg1_2.out hb); have Kg3_3 := Aside0.mk (blk_below Kg3_2.out hb); have Kg2_3 := Aside0.mk hbox; have fg1_0 : w3.cell? ⟨g1, 0, none⟩ = some (.int .i64 a) := (blk_cell Kg1_3.out 0).trans rfl; have fg1_1 : w3.cell? ⟨g1, 1, none⟩ = some (.int .i64 b) := (blk_cell Kg1_3.out 1).trans rfl; have fg1_2 : w3.cell? ⟨g1, 2, none⟩ = some (.int .i64 p) := (blk_cell Kg1_3.out 2).trans rfl; have fg1_3 : w3.cell? ⟨g1, 3, none⟩ = some (.slice A d.length c) := (blk_cell Kg1_3.out 3).trans rfl; have fg3_0 : w3.cell? ⟨g3, 0, none⟩ = some (.int .i64 4) := (blk_cell Kg3_3.out 0).trans rfl; have fg3_1 : w3.cell? ⟨g3, 1, none⟩ = some (.int .i64 x) := (blk_cell Kg3_3.out 1).trans rfl; have fg3_2 : w3.cell? ⟨g3, 2, none⟩ = some (.int .i64 y) := (blk_cell Kg3_3.out 2).trans rfl; have fg3_3 : w3.cell? ⟨g3, 3, none⟩ = some (.int .i64 wd) := (blk_cell Kg3_3.out 3).trans rfl; have fg3_4 : w3.cell? ⟨g3, 4, none⟩ = some (.int .i64 hg) := (blk_cell Kg3_3.out 4).trans rfl; have fg3_5 : w3.cell? ⟨g3, 5, none⟩ = some (.slice A3 pix.length c3) := (blk_cell Kg3_3.out 5).trans rfl; have fg2_0 : w3.cell? ⟨g2, 0, none⟩ = some (.int .i64 0) := (blk_cell Kg2_3.out 0).trans rfl; have fg2_1 : w3.cell? ⟨g2, 1, none⟩ = some (.int .i64 0) := (blk_cell Kg2_3.out 1).trans rfl; have fg2_2 : w3.cell? ⟨g2, 2, none⟩ = some (.int .i64 0) := (blk_cell Kg2_3.out 2).trans rfl; have fg2_3 : w3.cell? ⟨g2, 3, none⟩ = some (.slice none 0 0) := (blk_cell Kg2_3.out 3).trans rfl; clear hbox hb hg_) | (go_at_call 59; (with_reducible refine (impl_isBoxOn.calls a b p A c d x y wd hg _ w3 (Kd.C_below HR.out HB3.out) HC.out E2.out).mono ?_); rintro e w4 ⟨rfl, hb_⟩; have HB4 := Aside0.mk (below_then HB3.out HB3.out.size hb_); have Kg1_4 := Aside0.mk (blk_below Kg1_3.out hb_); have eg1_4_0 : w4.cell? ⟨g1, 0, none⟩ = some (.int .i64 a) := (blk_cell Kg1_4.out 0).trans rfl; have eg1_4_1 : w4.cell? ⟨g1, 1, none⟩ = some (.int .i64 b) := (blk_cell Kg1_4.out 1).trans rfl; have eg1_4_2 : w4.cell? ⟨g1, 2, none⟩ = some (.int .i64 p) := (blk_cell Kg1_4.out 2).trans rfl; have eg1_4_3 : w4.cell? ⟨g1, 3, none⟩ = some (.slice A d.length c) := (blk_cell Kg1_4.out 3).trans rfl; have Kg3_4 := Aside0.mk (blk_below Kg3_3.out hb_); have eg3_4_0 : w4.cell? ⟨g3, 0, none⟩ = some (.int .i64 4) := (blk_cell Kg3_4.out 0).trans rfl; have eg3_4_1 : w4.cell? ⟨g3, 1, none⟩ = some (.int .i64 x) := (blk_cell Kg3_4.out 1).trans rfl; have eg3_4_2 : w4.cell? ⟨g3, 2, none⟩ = some (.int .i64 y) := (blk_cell Kg3_4.out 2).trans rfl; have eg3_4_3 : w4.cell? ⟨g3, 3, none⟩ = some (.int .i64 wd) := (blk_cell Kg3_4.out 3).trans rfl; have eg3_4_4 : w4.cell? ⟨g3, 4, none⟩ = some (.int .i64 hg) := (blk_cell Kg3_4.out 4).trans rfl; have eg3_4_5 : w4.cell? ⟨g3, 5, none⟩ = some (.slice A3 pix.length c3) := (blk_cell Kg3_4.out 5).trans rfl; have Kg2_4 := Aside0.mk (blk_below Kg2_3.out hb_); have eg2_4_0 : w4.cell? ⟨g2, 0, none⟩ = some (.int .i64 0) := (blk_cell Kg2_4.out 0).trans rfl; have eg2_4_1 : w4.cell? ⟨g2, 1, none⟩ = some (.int .i64 0) := (blk_cell Kg2_4.out 1).trans rfl; have eg2_4_2 : w4.cell? ⟨g2, 2, none⟩ = some (.int .i64 0) := (blk_cell Kg2_4.out 2).trans rfl; have eg2_4_3 : w4.cell? ⟨g2, 3, none⟩ = some (.slice none 0 0) := (blk_cell Kg2_4.out 3).trans rfl; have yg2_4_0 := blk_frozen Kg2_4.out 0; have yg2_4_1 := blk_frozen Kg2_4.out 1; have yg2_4_2 := blk_frozen Kg2_4.out 2; have yg2_4_3 := blk_frozen Kg2_4.out 3; clear hb_))
  refine bodyPost_ret (results_ct rfl _ _ g2 28 #[.int .i64 0, .int .i64 0, .int .i64 0, .slice none 0 0] (0, 0) _ rfl (by
    refine blk_put (cs := #[.int .i64 0, .int .i64 0, .int .i64 0, .slice none 0 0]) ?_ 3 _ rfl
    refine blk_put (cs := #[.int .i64 0, .int .i64 0, .int .i64 0, .slice none 0 0]) ?_ 2 _ rfl
    refine blk_put (cs := #[.int .i64 0, .int .i64 0, .int .i64 0, .slice none 0 0]) ?_ 1 _ rfl
    refine blk_put (cs := #[.int .i64 0, .int .i64 0, .int .i64 0, .slice none 0 0]) ?_ 0 _ rfl
    exact Kg2_4.out
    ) hu rfl (by kernel_rfl)) rfl ?_
  have G2 := Gg2.out
  exact ⟨_, rfl, Kd.R_nil _ _ _ _ _, below_set (below_set (below_set (below_set HB4.out (by omega)) (by omega)) (by omega)) (by omega)⟩
set_option maxHeartbeats 4000000 in
set_option maxRecDepth 100000 in
theorem step4_no2 (a b p : Int) (A : Option Addr) (c : Nat) (d : List Int) (x y wd hg : Int) (A3 : Option Addr) (c3 : Nat) (pix : List Int) (w : World) (hr0_3 : Kd.C (Kd.int .i64) w A d.length d) (hc0_3 : d.length ≤ c) (hr3 : Kd.C (Kd.int .i64) w A3 pix.length pix) (hc3 : pix.length ≤ c3) (hv1 : validI a b p d = true) (hv2 : boxOn a b x y wd hg = true) (hv3 : ¬ (pix.length : Int) = p) :
    Calls Try.prog 45 #[.agg #[.int .i64 a, .int .i64 b, .int .i64 p, .slice A d.length c], .agg #[.int .i64 4, .int .i64 x, .int .i64 y, .int .i64 wd, .int .i64 hg, .slice A3 pix.length c3]] w fun e w' => ∃ v3_ : Value, e = .returned (.tuple #[.agg #[.int .i64 0, .int .i64 0, .int .i64 0, v3_], .bool false]) ∧ Kd.R (Kd.int .i64) 3 w' w.heap.size (fun _ => True) v3_ [] ∧ Below w.heap.size w w' := by
  have HC := Aside0.mk hc0_3
  have HR := Aside0.mk hr0_3
  have HC3 := Aside0.mk hc3
  have HR3 := Aside0.mk hr3
  have HB0 := Aside0.mk (Below.refl w.heap.size w)
  have HV := Aside0.mk hv1
  have hu := Try.underlying28
  have hm := hr3.2.1
  clear hr0_3 hc0_3 hr3 hc3
  have E2 := Aside0.mk (impl_isBoxOn_eq hv1 x y wd hg)
  rw [hv2] at E2
  have dn : ((pix.length : Int) == p) = false := by simpa using hv3
  have dn2 : decide ((pix.length : Int) = p) = false := decide_eq_false hv3
  clear hv1 hv2
  go_enter Try.func45, Try.ntmps45
  go_wp2_with (first | ((with_reducible refine gate_dst (N := 2) rfl ?_); refine box_event ?hg (N := 2) ?hd (cs := #[.int .i64 a, .int .i64 b, .int .i64 p, .slice A d.length c]) (t := 28) ?hr ?_; (case hd => rfl); (case hg => rfl); (case hr => (go_simp; done)); intro g1 hg_ w1 hbox hb; have HB1 := Aside0.mk (below_then HB0.out HB0.out.size hb); have Kb0 := Aside0.mk hbox; have Gg1 := Aside0.mk (show w.heap.size ≤ g1 from by rw [hg_]; exact HB0.out.size); have Kg1_1 := Aside0.mk hbox; clear hbox hb hg_) | ((with_reducible refine gate_dst (N := 3) rfl ?_); refine box_event ?hg (N := 3) ?hd (cs := #[.int .i64 4, .int .i64 x, .int .i64 y, .int .i64 wd, .int .i64 hg, .slice A3 pix.length c3]) (t := 43) ?hr ?_; (case hd => rfl); (case hg => rfl); (case hr => (go_simp; done)); intro g3 hg_ w2 hbox hb; have HB2 := Aside0.mk (below_then HB1.out HB1.out.size hb); have Kb1 := Aside0.mk hbox; have Gg3 := Aside0.mk (show w.heap.size ≤ g3 from by rw [hg_]; exact HB1.out.size); have Kg1_2 := Aside0.mk (blk_below Kg1_1.out hb); have Kg3_2 := Aside0.mk hbox; clear hbox hb hg_) | ((with_reducible refine gate_dst (N := 4) rfl ?_); refine box_event ?hg (N := 4) ?hd (cs := #[.int .i64 0, .int .i64 0, .int .i64 0, .slice none 0 0]) (t := 28) ?hr ?_; (case hd => rfl); (case hg => rfl); (case hr => (go_simp; done)); intro g2 hg_ w3 hbox hb; have HB3 := Aside0.mk (below_then HB2.out HB2.out.size hb); have Kb2 := Aside0.mk hbox; have Gg2 := Aside0.mk (show w.heap.size ≤ g2 from by rw [hg_]; exact HB2.out.size); have Kg1_3 := Aside0.mk (blk_below Kg1_2.out hb); have Kg3_3 := Aside0.mk (blk_below Kg3_2.out hb); have Kg2_3 := Aside0.mk hbox; have fg1_0 : w3.cell? ⟨g1, 0, none⟩ = some (.int .i64 a) := (blk_cell Kg1_3.out 0).trans rfl; have fg1_1 : w3.cell? ⟨g1, 1, none⟩ = some (.int .i64 b) := (blk_cell Kg1_3.out 1).trans rfl; have fg1_2 : w3.cell? ⟨g1, 2, none⟩ = some (.int .i64 p) := (blk_cell Kg1_3.out 2).trans rfl; have fg1_3 : w3.cell? ⟨g1, 3, none⟩ = some (.slice A d.length c) := (blk_cell Kg1_3.out 3).trans rfl; have fg3_0 : w3.cell? ⟨g3, 0, none⟩ = some (.int .i64 4) := (blk_cell Kg3_3.out 0).trans rfl; have fg3_1 : w3.cell? ⟨g3, 1, none⟩ = some (.int .i64 x) := (blk_cell Kg3_3.out 1).trans rfl; have fg3_2 : w3.cell? ⟨g3, 2, none⟩ = some (.int .i64 y) := (blk_cell Kg3_3.out 2).trans rfl; have fg3_3 : w3.cell? ⟨g3, 3, none⟩ = some (.int .i64 wd) := (blk_cell Kg3_3.out 3).trans rfl; have fg3_4 : w3.cell? ⟨g3, 4, none⟩ = some (.int .i64 hg) := (blk_cell Kg3_3.out 4).trans rfl; have fg3_5 : w3.cell? ⟨g3, 5, none⟩ = some (.slice A3 pix.length c3) := (blk_cell Kg3_3.out 5).trans rfl; have fg2_0 : w3.cell? ⟨g2, 0, none⟩ = some (.int .i64 0) := (blk_cell Kg2_3.out 0).trans rfl; have fg2_1 : w3.cell? ⟨g2, 1, none⟩ = some (.int .i64 0) := (blk_cell Kg2_3.out 1).trans rfl; have fg2_2 : w3.cell? ⟨g2, 2, none⟩ = some (.int .i64 0) := (blk_cell Kg2_3.out 2).trans rfl; have fg2_3 : w3.cell? ⟨g2, 3, none⟩ = some (.slice none 0 0) := (blk_cell Kg2_3.out 3).trans rfl; clear hbox hb hg_) | (go_at_call 59; (with_reducible refine (impl_isBoxOn.calls a b p A c d x y wd hg _ w3 (Kd.C_below HR.out HB3.out) HC.out E2.out).mono ?_); rintro e w4 ⟨rfl, hb_⟩; have HB4 := Aside0.mk (below_then HB3.out HB3.out.size hb_); have Kg1_4 := Aside0.mk (blk_below Kg1_3.out hb_); have eg1_4_0 : w4.cell? ⟨g1, 0, none⟩ = some (.int .i64 a) := (blk_cell Kg1_4.out 0).trans rfl; have eg1_4_1 : w4.cell? ⟨g1, 1, none⟩ = some (.int .i64 b) := (blk_cell Kg1_4.out 1).trans rfl; have eg1_4_2 : w4.cell? ⟨g1, 2, none⟩ = some (.int .i64 p) := (blk_cell Kg1_4.out 2).trans rfl; have eg1_4_3 : w4.cell? ⟨g1, 3, none⟩ = some (.slice A d.length c) := (blk_cell Kg1_4.out 3).trans rfl; have Kg3_4 := Aside0.mk (blk_below Kg3_3.out hb_); have eg3_4_0 : w4.cell? ⟨g3, 0, none⟩ = some (.int .i64 4) := (blk_cell Kg3_4.out 0).trans rfl; have eg3_4_1 : w4.cell? ⟨g3, 1, none⟩ = some (.int .i64 x) := (blk_cell Kg3_4.out 1).trans rfl; have eg3_4_2 : w4.cell? ⟨g3, 2, none⟩ = some (.int .i64 y) := (blk_cell Kg3_4.out 2).trans rfl; have eg3_4_3 : w4.cell? ⟨g3, 3, none⟩ = some (.int .i64 wd) := (blk_cell Kg3_4.out 3).trans rfl; have eg3_4_4 : w4.cell? ⟨g3, 4, none⟩ = some (.int .i64 hg) := (blk_cell Kg3_4.out 4).trans rfl; have eg3_4_5 : w4.cell? ⟨g3, 5, none⟩ = some (.slice A3 pix.length c3) := (blk_cell Kg3_4.out 5).trans rfl; have Kg2_4 := Aside0.mk (blk_below Kg2_3.out hb_); have eg2_4_0 : w4.cell? ⟨g2, 0, none⟩ = some (.int .i64 0) := (blk_cell Kg2_4.out 0).trans rfl; have eg2_4_1 : w4.cell? ⟨g2, 1, none⟩ = some (.int .i64 0) := (blk_cell Kg2_4.out 1).trans rfl; have eg2_4_2 : w4.cell? ⟨g2, 2, none⟩ = some (.int .i64 0) := (blk_cell Kg2_4.out 2).trans rfl; have eg2_4_3 : w4.cell? ⟨g2, 3, none⟩ = some (.slice none 0 0) := (blk_cell Kg2_4.out 3).trans rfl; have yg2_4_0 := blk_frozen Kg2_4.out 0; have yg2_4_1 := blk_frozen Kg2_4.out 1; have yg2_4_2 := blk_frozen Kg2_4.out 2; have yg2_4_3 := blk_frozen Kg2_4.out 3; clear hb_))
  refine bodyPost_ret (results_ct rfl _ _ g2 28 #[.int .i64 0, .int .i64 0, .int .i64 0, .slice none 0 0] (0, 0) _ rfl (by
    refine blk_put (cs := #[.int .i64 0, .int .i64 0, .int .i64 0, .slice none 0 0]) ?_ 3 _ rfl
    refine blk_put (cs := #[.int .i64 0, .int .i64 0, .int .i64 0, .slice none 0 0]) ?_ 2 _ rfl
    refine blk_put (cs := #[.int .i64 0, .int .i64 0, .int .i64 0, .slice none 0 0]) ?_ 1 _ rfl
    refine blk_put (cs := #[.int .i64 0, .int .i64 0, .int .i64 0, .slice none 0 0]) ?_ 0 _ rfl
    exact Kg2_4.out
    ) hu rfl (by kernel_rfl)) rfl ?_
  have G2 := Gg2.out
  exact ⟨_, rfl, Kd.R_nil _ _ _ _ _, below_set (below_set (below_set (below_set HB4.out (by omega)) (by omega)) (by omega)) (by omega)⟩
set_option maxHeartbeats 4000000 in
set_option maxRecDepth 100000 in
theorem step4_no3 (a b : Int) (A : Option Addr) (c : Nat) (d : List Int) (x y wd hg : Int) (A3 : Option Addr) (c3 : Nat) (pix : List Int) (w : World) (hr0_3 : Kd.C (Kd.int .i64) w A d.length d) (hc0_3 : d.length ≤ c) (hr3 : Kd.C (Kd.int .i64) w A3 pix.length pix) (hc3 : pix.length ≤ c3) (hv1 : validI a b (pix.length : Int) d = true) (hv2 : boxOn a b x y wd hg = true) (hv4 : pix.all byteI = false) :
    Calls Try.prog 45 #[.agg #[.int .i64 a, .int .i64 b, .int .i64 (pix.length : Int), .slice A d.length c], .agg #[.int .i64 4, .int .i64 x, .int .i64 y, .int .i64 wd, .int .i64 hg, .slice A3 pix.length c3]] w fun e w' => ∃ v3_ : Value, e = .returned (.tuple #[.agg #[.int .i64 0, .int .i64 0, .int .i64 0, v3_], .bool false]) ∧ Kd.R (Kd.int .i64) 3 w' w.heap.size (fun _ => True) v3_ [] ∧ Below w.heap.size w w' := by
  have HC := Aside0.mk hc0_3
  have HR := Aside0.mk hr0_3
  have HC3 := Aside0.mk hc3
  have HR3 := Aside0.mk hr3
  have HB0 := Aside0.mk (Below.refl w.heap.size w)
  have HV := Aside0.mk hv1
  have hu := Try.underlying28
  have hm := hr3.2.1
  clear hr0_3 hc0_3 hr3 hc3
  have E2 := Aside0.mk (impl_isBoxOn_eq hv1 x y wd hg)
  rw [hv2] at E2
  have E3 := Aside0.mk (areBytesI_eq pix)
  rw [hv4] at E3
  clear hv1 hv2 hv4
  go_enter Try.func45, Try.ntmps45
  go_wp2_with (first | ((with_reducible refine gate_dst (N := 2) rfl ?_); refine box_event ?hg (N := 2) ?hd (cs := #[.int .i64 a, .int .i64 b, .int .i64 (pix.length : Int), .slice A d.length c]) (t := 28) ?hr ?_; (case hd => rfl); (case hg => rfl); (case hr => (go_simp; done)); intro g1 hg_ w1 hbox hb; have HB1 := Aside0.mk (below_then HB0.out HB0.out.size hb); have Kb0 := Aside0.mk hbox; have Gg1 := Aside0.mk (show w.heap.size ≤ g1 from by rw [hg_]; exact HB0.out.size); have Kg1_1 := Aside0.mk hbox; clear hbox hb hg_) | ((with_reducible refine gate_dst (N := 3) rfl ?_); refine box_event ?hg (N := 3) ?hd (cs := #[.int .i64 4, .int .i64 x, .int .i64 y, .int .i64 wd, .int .i64 hg, .slice A3 pix.length c3]) (t := 43) ?hr ?_; (case hd => rfl); (case hg => rfl); (case hr => (go_simp; done)); intro g3 hg_ w2 hbox hb; have HB2 := Aside0.mk (below_then HB1.out HB1.out.size hb); have Kb1 := Aside0.mk hbox; have Gg3 := Aside0.mk (show w.heap.size ≤ g3 from by rw [hg_]; exact HB1.out.size); have Kg1_2 := Aside0.mk (blk_below Kg1_1.out hb); have Kg3_2 := Aside0.mk hbox; clear hbox hb hg_) | ((with_reducible refine gate_dst (N := 4) rfl ?_); refine box_event ?hg (N := 4) ?hd (cs := #[.int .i64 0, .int .i64 0, .int .i64 0, .slice none 0 0]) (t := 28) ?hr ?_; (case hd => rfl); (case hg => rfl); (case hr => (go_simp; done)); intro g2 hg_ w3 hbox hb; have HB3 := Aside0.mk (below_then HB2.out HB2.out.size hb); have Kb2 := Aside0.mk hbox; have Gg2 := Aside0.mk (show w.heap.size ≤ g2 from by rw [hg_]; exact HB2.out.size); have Kg1_3 := Aside0.mk (blk_below Kg1_2.out hb); have Kg3_3 := Aside0.mk (blk_below Kg3_2.out hb); have Kg2_3 := Aside0.mk hbox; have fg1_0 : w3.cell? ⟨g1, 0, none⟩ = some (.int .i64 a) := (blk_cell Kg1_3.out 0).trans rfl; have fg1_1 : w3.cell? ⟨g1, 1, none⟩ = some (.int .i64 b) := (blk_cell Kg1_3.out 1).trans rfl; have fg1_2 : w3.cell? ⟨g1, 2, none⟩ = some (.int .i64 (pix.length : Int)) := (blk_cell Kg1_3.out 2).trans rfl; have fg1_3 : w3.cell? ⟨g1, 3, none⟩ = some (.slice A d.length c) := (blk_cell Kg1_3.out 3).trans rfl; have fg3_0 : w3.cell? ⟨g3, 0, none⟩ = some (.int .i64 4) := (blk_cell Kg3_3.out 0).trans rfl; have fg3_1 : w3.cell? ⟨g3, 1, none⟩ = some (.int .i64 x) := (blk_cell Kg3_3.out 1).trans rfl; have fg3_2 : w3.cell? ⟨g3, 2, none⟩ = some (.int .i64 y) := (blk_cell Kg3_3.out 2).trans rfl; have fg3_3 : w3.cell? ⟨g3, 3, none⟩ = some (.int .i64 wd) := (blk_cell Kg3_3.out 3).trans rfl; have fg3_4 : w3.cell? ⟨g3, 4, none⟩ = some (.int .i64 hg) := (blk_cell Kg3_3.out 4).trans rfl; have fg3_5 : w3.cell? ⟨g3, 5, none⟩ = some (.slice A3 pix.length c3) := (blk_cell Kg3_3.out 5).trans rfl; have fg2_0 : w3.cell? ⟨g2, 0, none⟩ = some (.int .i64 0) := (blk_cell Kg2_3.out 0).trans rfl; have fg2_1 : w3.cell? ⟨g2, 1, none⟩ = some (.int .i64 0) := (blk_cell Kg2_3.out 1).trans rfl; have fg2_2 : w3.cell? ⟨g2, 2, none⟩ = some (.int .i64 0) := (blk_cell Kg2_3.out 2).trans rfl; have fg2_3 : w3.cell? ⟨g2, 3, none⟩ = some (.slice none 0 0) := (blk_cell Kg2_3.out 3).trans rfl; clear hbox hb hg_) | (go_at_call 59; (with_reducible refine (impl_isBoxOn.calls a b (pix.length : Int) A c d x y wd hg _ w3 (Kd.C_below HR.out HB3.out) HC.out E2.out).mono ?_); rintro e w4 ⟨rfl, hb_⟩; have HB4 := Aside0.mk (below_then HB3.out HB3.out.size hb_); have Kg1_4 := Aside0.mk (blk_below Kg1_3.out hb_); have eg1_4_0 : w4.cell? ⟨g1, 0, none⟩ = some (.int .i64 a) := (blk_cell Kg1_4.out 0).trans rfl; have eg1_4_1 : w4.cell? ⟨g1, 1, none⟩ = some (.int .i64 b) := (blk_cell Kg1_4.out 1).trans rfl; have eg1_4_2 : w4.cell? ⟨g1, 2, none⟩ = some (.int .i64 (pix.length : Int)) := (blk_cell Kg1_4.out 2).trans rfl; have eg1_4_3 : w4.cell? ⟨g1, 3, none⟩ = some (.slice A d.length c) := (blk_cell Kg1_4.out 3).trans rfl; have Kg3_4 := Aside0.mk (blk_below Kg3_3.out hb_); have eg3_4_0 : w4.cell? ⟨g3, 0, none⟩ = some (.int .i64 4) := (blk_cell Kg3_4.out 0).trans rfl; have eg3_4_1 : w4.cell? ⟨g3, 1, none⟩ = some (.int .i64 x) := (blk_cell Kg3_4.out 1).trans rfl; have eg3_4_2 : w4.cell? ⟨g3, 2, none⟩ = some (.int .i64 y) := (blk_cell Kg3_4.out 2).trans rfl; have eg3_4_3 : w4.cell? ⟨g3, 3, none⟩ = some (.int .i64 wd) := (blk_cell Kg3_4.out 3).trans rfl; have eg3_4_4 : w4.cell? ⟨g3, 4, none⟩ = some (.int .i64 hg) := (blk_cell Kg3_4.out 4).trans rfl; have eg3_4_5 : w4.cell? ⟨g3, 5, none⟩ = some (.slice A3 pix.length c3) := (blk_cell Kg3_4.out 5).trans rfl; have Kg2_4 := Aside0.mk (blk_below Kg2_3.out hb_); have eg2_4_0 : w4.cell? ⟨g2, 0, none⟩ = some (.int .i64 0) := (blk_cell Kg2_4.out 0).trans rfl; have eg2_4_1 : w4.cell? ⟨g2, 1, none⟩ = some (.int .i64 0) := (blk_cell Kg2_4.out 1).trans rfl; have eg2_4_2 : w4.cell? ⟨g2, 2, none⟩ = some (.int .i64 0) := (blk_cell Kg2_4.out 2).trans rfl; have eg2_4_3 : w4.cell? ⟨g2, 3, none⟩ = some (.slice none 0 0) := (blk_cell Kg2_4.out 3).trans rfl; have yg2_4_0 := blk_frozen Kg2_4.out 0; have yg2_4_1 := blk_frozen Kg2_4.out 1; have yg2_4_2 := blk_frozen Kg2_4.out 2; have yg2_4_3 := blk_frozen Kg2_4.out 3; clear hb_) | (go_at_call 63; (with_reducible refine (impl_areBytes.calls A3 c3 pix _ w4 (Kd.C_below HR3.out HB4.out) HC3.out E3.out).mono ?_); rintro e w5 ⟨rfl, hd_⟩; have hb_ := hd_.below; have HB5 := Aside0.mk (below_then HB4.out HB4.out.size hb_); have Kg1_5 := Aside0.mk (blk_below Kg1_4.out hb_); have eg1_5_0 : w5.cell? ⟨g1, 0, none⟩ = some (.int .i64 a) := (blk_cell Kg1_5.out 0).trans rfl; have eg1_5_1 : w5.cell? ⟨g1, 1, none⟩ = some (.int .i64 b) := (blk_cell Kg1_5.out 1).trans rfl; have eg1_5_2 : w5.cell? ⟨g1, 2, none⟩ = some (.int .i64 (pix.length : Int)) := (blk_cell Kg1_5.out 2).trans rfl; have eg1_5_3 : w5.cell? ⟨g1, 3, none⟩ = some (.slice A d.length c) := (blk_cell Kg1_5.out 3).trans rfl; have Kg3_5 := Aside0.mk (blk_below Kg3_4.out hb_); have eg3_5_0 : w5.cell? ⟨g3, 0, none⟩ = some (.int .i64 4) := (blk_cell Kg3_5.out 0).trans rfl; have eg3_5_1 : w5.cell? ⟨g3, 1, none⟩ = some (.int .i64 x) := (blk_cell Kg3_5.out 1).trans rfl; have eg3_5_2 : w5.cell? ⟨g3, 2, none⟩ = some (.int .i64 y) := (blk_cell Kg3_5.out 2).trans rfl; have eg3_5_3 : w5.cell? ⟨g3, 3, none⟩ = some (.int .i64 wd) := (blk_cell Kg3_5.out 3).trans rfl; have eg3_5_4 : w5.cell? ⟨g3, 4, none⟩ = some (.int .i64 hg) := (blk_cell Kg3_5.out 4).trans rfl; have eg3_5_5 : w5.cell? ⟨g3, 5, none⟩ = some (.slice A3 pix.length c3) := (blk_cell Kg3_5.out 5).trans rfl; have Kg2_5 := Aside0.mk (blk_below Kg2_4.out hb_); have eg2_5_0 : w5.cell? ⟨g2, 0, none⟩ = some (.int .i64 0) := (blk_cell Kg2_5.out 0).trans rfl; have eg2_5_1 : w5.cell? ⟨g2, 1, none⟩ = some (.int .i64 0) := (blk_cell Kg2_5.out 1).trans rfl; have eg2_5_2 : w5.cell? ⟨g2, 2, none⟩ = some (.int .i64 0) := (blk_cell Kg2_5.out 2).trans rfl; have eg2_5_3 : w5.cell? ⟨g2, 3, none⟩ = some (.slice none 0 0) := (blk_cell Kg2_5.out 3).trans rfl; have yg2_5_0 := blk_frozen Kg2_5.out 0; have yg2_5_1 := blk_frozen Kg2_5.out 1; have yg2_5_2 := blk_frozen Kg2_5.out 2; have yg2_5_3 := blk_frozen Kg2_5.out 3; clear hd_ hb_))
  refine bodyPost_ret (results_ct rfl _ _ g2 28 #[.int .i64 0, .int .i64 0, .int .i64 0, .slice none 0 0] (0, 0) _ rfl (by
    refine blk_put (cs := #[.int .i64 0, .int .i64 0, .int .i64 0, .slice none 0 0]) ?_ 3 _ rfl
    refine blk_put (cs := #[.int .i64 0, .int .i64 0, .int .i64 0, .slice none 0 0]) ?_ 2 _ rfl
    refine blk_put (cs := #[.int .i64 0, .int .i64 0, .int .i64 0, .slice none 0 0]) ?_ 1 _ rfl
    refine blk_put (cs := #[.int .i64 0, .int .i64 0, .int .i64 0, .slice none 0 0]) ?_ 0 _ rfl
    exact Kg2_5.out
    ) hu rfl (by kernel_rfl)) rfl ?_
  have G2 := Gg2.out
  exact ⟨_, rfl, Kd.R_nil _ _ _ _ _, below_set (below_set (below_set (below_set HB5.out (by omega)) (by omega)) (by omega)) (by omega)⟩
set_option maxHeartbeats 4000000 in
set_option maxRecDepth 100000 in
theorem step4_yes (a b : Nat) (A : Option Addr) (c : Nat) (d : List Int) (x y wd hg : Nat) (A3 : Option Addr) (c3 : Nat) (pix : List Int) (w : World) (hr0_3 : Kd.C (Kd.int .i64) w A d.length d) (hc0_3 : d.length ≤ c) (hr3 : Kd.C (Kd.int .i64) w A3 pix.length pix) (hc3 : pix.length ≤ c3) (hv1 : validI a b (pix.length : Int) d = true) (hv2 : boxOn a b x y wd hg = true) (hv4 : pix.all byteI = true) :
    Calls Try.prog 45 #[.agg #[.int .i64 (a : Int), .int .i64 (b : Int), .int .i64 (pix.length : Int), .slice A d.length c], .agg #[.int .i64 4, .int .i64 (x : Int), .int .i64 (y : Int), .int .i64 (wd : Int), .int .i64 (hg : Int), .slice A3 pix.length c3]] w fun e w' => ∃ v3_ : Value, e = .returned (.tuple #[.agg #[.int .i64 (a : Int), .int .i64 (b : Int), .int .i64 (pix.length : Int), v3_], .bool true]) ∧ Kd.R (Kd.int .i64) 3 w' w.heap.size (fun _ => True) v3_ (imgD (fillPx a (pix.length : Int) d x y wd hg pix) a b) ∧ Below w.heap.size w w' := by
  have HC := Aside0.mk hc0_3
  have HR := Aside0.mk hr0_3
  have HC3 := Aside0.mk hc3
  have HR3 := Aside0.mk hr3
  have HB0 := Aside0.mk (Below.refl w.heap.size w)
  have HV := Aside0.mk hv1
  have hu := Try.underlying28
  have hm := hr3.2.1
  clear hr0_3 hc0_3 hr3 hc3
  have E2 := Aside0.mk (impl_isBoxOn_eq hv1 x y wd hg)
  rw [hv2] at E2
  have E3 := Aside0.mk (areBytesI_eq pix)
  rw [hv4] at E3
  have hs := ((validI_iff a b pix.length d).1 hv1).1
  have hbx := (boxOn_iff a b x y wd hg).1 hv2
  have HPL := Aside0.mk (show ∀ i j, i < a → j < b → ((fillPx a (pix.length : Int) d x y wd hg pix) i j).length ≤ 4 from fun i j hi hj => by
    unfold fillPx
    split
    · omega
    · exact pxAt_le hv1 (by omega) (by omega))
  clear hv1 hv2 hv4
  go_enter Try.func45, Try.ntmps45
  go_wp2_with (first | ((with_reducible refine gate_dst (N := 2) rfl ?_); refine box_event ?hg (N := 2) ?hd (cs := #[.int .i64 (a : Int), .int .i64 (b : Int), .int .i64 (pix.length : Int), .slice A d.length c]) (t := 28) ?hr ?_; (case hd => rfl); (case hg => rfl); (case hr => (go_simp; done)); intro g1 hg_ w1 hbox hb; have HB1 := Aside0.mk (below_then HB0.out HB0.out.size hb); have Kb0 := Aside0.mk hbox; have Gg1 := Aside0.mk (show w.heap.size ≤ g1 from by rw [hg_]; exact HB0.out.size); have Kg1_1 := Aside0.mk hbox; clear hbox hb hg_) | ((with_reducible refine gate_dst (N := 3) rfl ?_); refine box_event ?hg (N := 3) ?hd (cs := #[.int .i64 4, .int .i64 (x : Int), .int .i64 (y : Int), .int .i64 (wd : Int), .int .i64 (hg : Int), .slice A3 pix.length c3]) (t := 43) ?hr ?_; (case hd => rfl); (case hg => rfl); (case hr => (go_simp; done)); intro g3 hg_ w2 hbox hb; have HB2 := Aside0.mk (below_then HB1.out HB1.out.size hb); have Kb1 := Aside0.mk hbox; have Gg3 := Aside0.mk (show w.heap.size ≤ g3 from by rw [hg_]; exact HB1.out.size); have Kg1_2 := Aside0.mk (blk_below Kg1_1.out hb); have Kg3_2 := Aside0.mk hbox; clear hbox hb hg_) | ((with_reducible refine gate_dst (N := 4) rfl ?_); refine box_event ?hg (N := 4) ?hd (cs := #[.int .i64 0, .int .i64 0, .int .i64 0, .slice none 0 0]) (t := 28) ?hr ?_; (case hd => rfl); (case hg => rfl); (case hr => (go_simp; done)); intro g2 hg_ w3 hbox hb; have HB3 := Aside0.mk (below_then HB2.out HB2.out.size hb); have Kb2 := Aside0.mk hbox; have Gg2 := Aside0.mk (show w.heap.size ≤ g2 from by rw [hg_]; exact HB2.out.size); have Kg1_3 := Aside0.mk (blk_below Kg1_2.out hb); have Kg3_3 := Aside0.mk (blk_below Kg3_2.out hb); have Kg2_3 := Aside0.mk hbox; have fg1_0 : w3.cell? ⟨g1, 0, none⟩ = some (.int .i64 (a : Int)) := (blk_cell Kg1_3.out 0).trans rfl; have fg1_1 : w3.cell? ⟨g1, 1, none⟩ = some (.int .i64 (b : Int)) := (blk_cell Kg1_3.out 1).trans rfl; have fg1_2 : w3.cell? ⟨g1, 2, none⟩ = some (.int .i64 (pix.length : Int)) := (blk_cell Kg1_3.out 2).trans rfl; have fg1_3 : w3.cell? ⟨g1, 3, none⟩ = some (.slice A d.length c) := (blk_cell Kg1_3.out 3).trans rfl; have fg3_0 : w3.cell? ⟨g3, 0, none⟩ = some (.int .i64 4) := (blk_cell Kg3_3.out 0).trans rfl; have fg3_1 : w3.cell? ⟨g3, 1, none⟩ = some (.int .i64 (x : Int)) := (blk_cell Kg3_3.out 1).trans rfl; have fg3_2 : w3.cell? ⟨g3, 2, none⟩ = some (.int .i64 (y : Int)) := (blk_cell Kg3_3.out 2).trans rfl; have fg3_3 : w3.cell? ⟨g3, 3, none⟩ = some (.int .i64 (wd : Int)) := (blk_cell Kg3_3.out 3).trans rfl; have fg3_4 : w3.cell? ⟨g3, 4, none⟩ = some (.int .i64 (hg : Int)) := (blk_cell Kg3_3.out 4).trans rfl; have fg3_5 : w3.cell? ⟨g3, 5, none⟩ = some (.slice A3 pix.length c3) := (blk_cell Kg3_3.out 5).trans rfl; have fg2_0 : w3.cell? ⟨g2, 0, none⟩ = some (.int .i64 0) := (blk_cell Kg2_3.out 0).trans rfl; have fg2_1 : w3.cell? ⟨g2, 1, none⟩ = some (.int .i64 0) := (blk_cell Kg2_3.out 1).trans rfl; have fg2_2 : w3.cell? ⟨g2, 2, none⟩ = some (.int .i64 0) := (blk_cell Kg2_3.out 2).trans rfl; have fg2_3 : w3.cell? ⟨g2, 3, none⟩ = some (.slice none 0 0) := (blk_cell Kg2_3.out 3).trans rfl; clear hbox hb hg_) | (go_at_call 59; (with_reducible refine (impl_isBoxOn.calls a b (pix.length : Int) A c d x y wd hg _ w3 (Kd.C_below HR.out HB3.out) HC.out E2.out).mono ?_); rintro e w4 ⟨rfl, hb_⟩; have HB4 := Aside0.mk (below_then HB3.out HB3.out.size hb_); have Kg1_4 := Aside0.mk (blk_below Kg1_3.out hb_); have eg1_4_0 : w4.cell? ⟨g1, 0, none⟩ = some (.int .i64 (a : Int)) := (blk_cell Kg1_4.out 0).trans rfl; have eg1_4_1 : w4.cell? ⟨g1, 1, none⟩ = some (.int .i64 (b : Int)) := (blk_cell Kg1_4.out 1).trans rfl; have eg1_4_2 : w4.cell? ⟨g1, 2, none⟩ = some (.int .i64 (pix.length : Int)) := (blk_cell Kg1_4.out 2).trans rfl; have eg1_4_3 : w4.cell? ⟨g1, 3, none⟩ = some (.slice A d.length c) := (blk_cell Kg1_4.out 3).trans rfl; have Kg3_4 := Aside0.mk (blk_below Kg3_3.out hb_); have eg3_4_0 : w4.cell? ⟨g3, 0, none⟩ = some (.int .i64 4) := (blk_cell Kg3_4.out 0).trans rfl; have eg3_4_1 : w4.cell? ⟨g3, 1, none⟩ = some (.int .i64 (x : Int)) := (blk_cell Kg3_4.out 1).trans rfl; have eg3_4_2 : w4.cell? ⟨g3, 2, none⟩ = some (.int .i64 (y : Int)) := (blk_cell Kg3_4.out 2).trans rfl; have eg3_4_3 : w4.cell? ⟨g3, 3, none⟩ = some (.int .i64 (wd : Int)) := (blk_cell Kg3_4.out 3).trans rfl; have eg3_4_4 : w4.cell? ⟨g3, 4, none⟩ = some (.int .i64 (hg : Int)) := (blk_cell Kg3_4.out 4).trans rfl; have eg3_4_5 : w4.cell? ⟨g3, 5, none⟩ = some (.slice A3 pix.length c3) := (blk_cell Kg3_4.out 5).trans rfl; have Kg2_4 := Aside0.mk (blk_below Kg2_3.out hb_); have eg2_4_0 : w4.cell? ⟨g2, 0, none⟩ = some (.int .i64 0) := (blk_cell Kg2_4.out 0).trans rfl; have eg2_4_1 : w4.cell? ⟨g2, 1, none⟩ = some (.int .i64 0) := (blk_cell Kg2_4.out 1).trans rfl; have eg2_4_2 : w4.cell? ⟨g2, 2, none⟩ = some (.int .i64 0) := (blk_cell Kg2_4.out 2).trans rfl; have eg2_4_3 : w4.cell? ⟨g2, 3, none⟩ = some (.slice none 0 0) := (blk_cell Kg2_4.out 3).trans rfl; have yg2_4_0 := blk_frozen Kg2_4.out 0; have yg2_4_1 := blk_frozen Kg2_4.out 1; have yg2_4_2 := blk_frozen Kg2_4.out 2; have yg2_4_3 := blk_frozen Kg2_4.out 3; clear hb_) | (go_at_call 63; (with_reducible refine (impl_areBytes.calls A3 c3 pix _ w4 (Kd.C_below HR3.out HB4.out) HC3.out E3.out).mono ?_); rintro e w5 ⟨rfl, hd_⟩; have hb_ := hd_.below; have HB5 := Aside0.mk (below_then HB4.out HB4.out.size hb_); have Kg1_5 := Aside0.mk (blk_below Kg1_4.out hb_); have eg1_5_0 : w5.cell? ⟨g1, 0, none⟩ = some (.int .i64 (a : Int)) := (blk_cell Kg1_5.out 0).trans rfl; have eg1_5_1 : w5.cell? ⟨g1, 1, none⟩ = some (.int .i64 (b : Int)) := (blk_cell Kg1_5.out 1).trans rfl; have eg1_5_2 : w5.cell? ⟨g1, 2, none⟩ = some (.int .i64 (pix.length : Int)) := (blk_cell Kg1_5.out 2).trans rfl; have eg1_5_3 : w5.cell? ⟨g1, 3, none⟩ = some (.slice A d.length c) := (blk_cell Kg1_5.out 3).trans rfl; have Kg3_5 := Aside0.mk (blk_below Kg3_4.out hb_); have eg3_5_0 : w5.cell? ⟨g3, 0, none⟩ = some (.int .i64 4) := (blk_cell Kg3_5.out 0).trans rfl; have eg3_5_1 : w5.cell? ⟨g3, 1, none⟩ = some (.int .i64 (x : Int)) := (blk_cell Kg3_5.out 1).trans rfl; have eg3_5_2 : w5.cell? ⟨g3, 2, none⟩ = some (.int .i64 (y : Int)) := (blk_cell Kg3_5.out 2).trans rfl; have eg3_5_3 : w5.cell? ⟨g3, 3, none⟩ = some (.int .i64 (wd : Int)) := (blk_cell Kg3_5.out 3).trans rfl; have eg3_5_4 : w5.cell? ⟨g3, 4, none⟩ = some (.int .i64 (hg : Int)) := (blk_cell Kg3_5.out 4).trans rfl; have eg3_5_5 : w5.cell? ⟨g3, 5, none⟩ = some (.slice A3 pix.length c3) := (blk_cell Kg3_5.out 5).trans rfl; have Kg2_5 := Aside0.mk (blk_below Kg2_4.out hb_); have eg2_5_0 : w5.cell? ⟨g2, 0, none⟩ = some (.int .i64 0) := (blk_cell Kg2_5.out 0).trans rfl; have eg2_5_1 : w5.cell? ⟨g2, 1, none⟩ = some (.int .i64 0) := (blk_cell Kg2_5.out 1).trans rfl; have eg2_5_2 : w5.cell? ⟨g2, 2, none⟩ = some (.int .i64 0) := (blk_cell Kg2_5.out 2).trans rfl; have eg2_5_3 : w5.cell? ⟨g2, 3, none⟩ = some (.slice none 0 0) := (blk_cell Kg2_5.out 3).trans rfl; have yg2_5_0 := blk_frozen Kg2_5.out 0; have yg2_5_1 := blk_frozen Kg2_5.out 1; have yg2_5_2 := blk_frozen Kg2_5.out 2; have yg2_5_3 := blk_frozen Kg2_5.out 3; clear hd_ hb_) | (go_at_call 53; refine (imageBy_calls 80 #[.pointer (some ⟨g3, 0, none⟩), .pointer (some ⟨g1, 0, none⟩)] (fillPx a (pix.length : Int) d x y wd hg pix) a b (pix.length : Int) (by omega) (by omega) w5 (enters_of Try.func80 (by kernel_rfl) rfl) HPL.out (fun W i j hi hj hW => fill1_calls a b pix.length A c d HV.out HC.out 4 x y wd hg (by omega) (by omega) (by omega) (by omega) A3 c3 pix HC3.out i j (by omega) (by omega) g3 W (blk_below Kg3_5.out hW) g1 (blk_below Kg1_5.out hW) (Kd.C_below (Kd.C_below HR.out HB5.out) hW) (Kd.C_below (Kd.C_below HR3.out HB5.out) hW))).mono ?_; rintro e w6 ⟨v6, rfl, hr6, hb_⟩; have HB6 := Aside0.mk (below_then HB5.out HB5.out.size hb_); have Kg1_6 := Aside0.mk (blk_below Kg1_5.out hb_); have eg1_6_0 : w6.cell? ⟨g1, 0, none⟩ = some (.int .i64 (a : Int)) := (blk_cell Kg1_6.out 0).trans rfl; have eg1_6_1 : w6.cell? ⟨g1, 1, none⟩ = some (.int .i64 (b : Int)) := (blk_cell Kg1_6.out 1).trans rfl; have eg1_6_2 : w6.cell? ⟨g1, 2, none⟩ = some (.int .i64 (pix.length : Int)) := (blk_cell Kg1_6.out 2).trans rfl; have eg1_6_3 : w6.cell? ⟨g1, 3, none⟩ = some (.slice A d.length c) := (blk_cell Kg1_6.out 3).trans rfl; have Kg3_6 := Aside0.mk (blk_below Kg3_5.out hb_); have eg3_6_0 : w6.cell? ⟨g3, 0, none⟩ = some (.int .i64 4) := (blk_cell Kg3_6.out 0).trans rfl; have eg3_6_1 : w6.cell? ⟨g3, 1, none⟩ = some (.int .i64 (x : Int)) := (blk_cell Kg3_6.out 1).trans rfl; have eg3_6_2 : w6.cell? ⟨g3, 2, none⟩ = some (.int .i64 (y : Int)) := (blk_cell Kg3_6.out 2).trans rfl; have eg3_6_3 : w6.cell? ⟨g3, 3, none⟩ = some (.int .i64 (wd : Int)) := (blk_cell Kg3_6.out 3).trans rfl; have eg3_6_4 : w6.cell? ⟨g3, 4, none⟩ = some (.int .i64 (hg : Int)) := (blk_cell Kg3_6.out 4).trans rfl; have eg3_6_5 : w6.cell? ⟨g3, 5, none⟩ = some (.slice A3 pix.length c3) := (blk_cell Kg3_6.out 5).trans rfl; have Kg2_6 := Aside0.mk (blk_below Kg2_5.out hb_); have eg2_6_0 : w6.cell? ⟨g2, 0, none⟩ = some (.int .i64 0) := (blk_cell Kg2_6.out 0).trans rfl; have eg2_6_1 : w6.cell? ⟨g2, 1, none⟩ = some (.int .i64 0) := (blk_cell Kg2_6.out 1).trans rfl; have eg2_6_2 : w6.cell? ⟨g2, 2, none⟩ = some (.int .i64 0) := (blk_cell Kg2_6.out 2).trans rfl; have eg2_6_3 : w6.cell? ⟨g2, 3, none⟩ = some (.slice none 0 0) := (blk_cell Kg2_6.out 3).trans rfl; have yg2_6_0 := blk_frozen Kg2_6.out 0; have yg2_6_1 := blk_frozen Kg2_6.out 1; have yg2_6_2 := blk_frozen Kg2_6.out 2; have yg2_6_3 := blk_frozen Kg2_6.out 3; have HR6 := Aside0.mk (Kd.R_lower hr6 HB5.out.size); obtain ⟨A6, c6, ev6⟩ := Kd.R_slice HR6.out; subst ev6; clear hr6 hb_))
  have G2 := Gg2.out
  have RR := Kd.R_types HR6.out Kg2_6.out (by decide)
  refine bodyPost_ret (results_ct rfl _ _ g2 28 #[.int .i64 (a : Int), .int .i64 (b : Int), .int .i64 (pix.length : Int), .slice A6 (imgD (fillPx a (pix.length : Int) d x y wd hg pix) a b).length c6] (0, 0) _ rfl (by
    refine blk_put (cs := #[.int .i64 (a : Int), .int .i64 (b : Int), .int .i64 (pix.length : Int), .slice none 0 0]) ?_ 3 _ rfl
    refine blk_put (cs := #[.int .i64 (a : Int), .int .i64 (b : Int), .int .i64 0, .slice none 0 0]) ?_ 2 _ rfl
    refine blk_put (cs := #[.int .i64 (a : Int), .int .i64 0, .int .i64 0, .slice none 0 0]) ?_ 1 _ rfl
    refine blk_put (cs := #[.int .i64 0, .int .i64 0, .int .i64 0, .slice none 0 0]) ?_ 0 _ rfl
    exact Kg2_6.out
    ) hu rfl (by kernel_rfl)) rfl ?_
  exact ⟨_, rfl, Kd.R_mono (Kd.R_far (Kd.R_far (Kd.R_far (Kd.R_far RR (fun k hk => hk.2) _) (fun k hk => hk.2) _) (fun k hk => hk.2) _) (fun k hk => hk.2) _) (fun _ _ => trivial), below_set (below_set (below_set (below_set HB6.out (by omega)) (by omega)) (by omega)) (by omega)⟩
set_option maxHeartbeats 4000000 in
set_option maxRecDepth 100000 in
theorem step5 (a b p : Int) (A : Option Addr) (c : Nat) (d : List Int) (kind x y wd hg : Int) (A3 : Option Addr) (c3 : Nat) (pix : List Int) (w : World) (hr0_3 : Kd.C (Kd.int .i64) w A d.length d) (hc0_3 : d.length ≤ c) (hr3 : Kd.C (Kd.int .i64) w A3 pix.length pix) (hc3 : pix.length ≤ c3) (hv1 : validI a b p d = true) (h0 : ¬ kind = 0) (h1 : ¬ kind = 1) (h2 : ¬ kind = 2) (h3 : ¬ kind = 3) (h4 : ¬ kind = 4) :
    Calls Try.prog 45 #[.agg #[.int .i64 a, .int .i64 b, .int .i64 p, .slice A d.length c], .agg #[.int .i64 kind, .int .i64 x, .int .i64 y, .int .i64 wd, .int .i64 hg, .slice A3 pix.length c3]] w fun e w' => ∃ v3_ : Value, e = .returned (.tuple #[.agg #[.int .i64 0, .int .i64 0, .int .i64 0, v3_], .bool false]) ∧ Kd.R (Kd.int .i64) 3 w' w.heap.size (fun _ => True) v3_ [] ∧ Below w.heap.size w w' := by
  have HC := Aside0.mk hc0_3
  have HR := Aside0.mk hr0_3
  have HC3 := Aside0.mk hc3
  have HR3 := Aside0.mk hr3
  have HB0 := Aside0.mk (Below.refl w.heap.size w)
  have HV := Aside0.mk hv1
  have hu := Try.underlying28
  have hm := hr3.2.1
  clear hr0_3 hc0_3 hr3 hc3
  have k0a : (kind == 0) = false := by simpa using h0
  have k0b : decide (kind = 0) = false := decide_eq_false h0
  have k1a : (kind == 1) = false := by simpa using h1
  have k1b : decide (kind = 1) = false := decide_eq_false h1
  have k2a : (kind == 2) = false := by simpa using h2
  have k2b : decide (kind = 2) = false := decide_eq_false h2
  have k3a : (kind == 3) = false := by simpa using h3
  have k3b : decide (kind = 3) = false := decide_eq_false h3
  have k4a : (kind == 4) = false := by simpa using h4
  have k4b : decide (kind = 4) = false := decide_eq_false h4
  have HH := Aside0.mk (And.intro h0 (And.intro h1 (And.intro h2 (And.intro h3 h4))))
  clear hv1 h0 h1 h2 h3 h4
  go_enter Try.func45, Try.ntmps45
  go_wp2_with (first | ((with_reducible refine gate_dst (N := 2) rfl ?_); refine box_event ?hg (N := 2) ?hd (cs := #[.int .i64 a, .int .i64 b, .int .i64 p, .slice A d.length c]) (t := 28) ?hr ?_; (case hd => rfl); (case hg => rfl); (case hr => (go_simp; done)); intro g1 hg_ w1 hbox hb; have HB1 := Aside0.mk (below_then HB0.out HB0.out.size hb); have Kb0 := Aside0.mk hbox; have Gg1 := Aside0.mk (show w.heap.size ≤ g1 from by rw [hg_]; exact HB0.out.size); have Kg1_1 := Aside0.mk hbox; clear hbox hb hg_) | ((with_reducible refine gate_dst (N := 3) rfl ?_); refine box_event ?hg (N := 3) ?hd (cs := #[.int .i64 kind, .int .i64 x, .int .i64 y, .int .i64 wd, .int .i64 hg, .slice A3 pix.length c3]) (t := 43) ?hr ?_; (case hd => rfl); (case hg => rfl); (case hr => (go_simp; done)); intro g3 hg_ w2 hbox hb; have HB2 := Aside0.mk (below_then HB1.out HB1.out.size hb); have Kb1 := Aside0.mk hbox; have Gg3 := Aside0.mk (show w.heap.size ≤ g3 from by rw [hg_]; exact HB1.out.size); have Kg1_2 := Aside0.mk (blk_below Kg1_1.out hb); have Kg3_2 := Aside0.mk hbox; clear hbox hb hg_) | ((with_reducible refine gate_dst (N := 4) rfl ?_); refine box_event ?hg (N := 4) ?hd (cs := #[.int .i64 0, .int .i64 0, .int .i64 0, .slice none 0 0]) (t := 28) ?hr ?_; (case hd => rfl); (case hg => rfl); (case hr => (go_simp; done)); intro g2 hg_ w3 hbox hb; have HB3 := Aside0.mk (below_then HB2.out HB2.out.size hb); have Kb2 := Aside0.mk hbox; have Gg2 := Aside0.mk (show w.heap.size ≤ g2 from by rw [hg_]; exact HB2.out.size); have Kg1_3 := Aside0.mk (blk_below Kg1_2.out hb); have Kg3_3 := Aside0.mk (blk_below Kg3_2.out hb); have Kg2_3 := Aside0.mk hbox; have fg1_0 : w3.cell? ⟨g1, 0, none⟩ = some (.int .i64 a) := (blk_cell Kg1_3.out 0).trans rfl; have fg1_1 : w3.cell? ⟨g1, 1, none⟩ = some (.int .i64 b) := (blk_cell Kg1_3.out 1).trans rfl; have fg1_2 : w3.cell? ⟨g1, 2, none⟩ = some (.int .i64 p) := (blk_cell Kg1_3.out 2).trans rfl; have fg1_3 : w3.cell? ⟨g1, 3, none⟩ = some (.slice A d.length c) := (blk_cell Kg1_3.out 3).trans rfl; have fg3_0 : w3.cell? ⟨g3, 0, none⟩ = some (.int .i64 kind) := (blk_cell Kg3_3.out 0).trans rfl; have fg3_1 : w3.cell? ⟨g3, 1, none⟩ = some (.int .i64 x) := (blk_cell Kg3_3.out 1).trans rfl; have fg3_2 : w3.cell? ⟨g3, 2, none⟩ = some (.int .i64 y) := (blk_cell Kg3_3.out 2).trans rfl; have fg3_3 : w3.cell? ⟨g3, 3, none⟩ = some (.int .i64 wd) := (blk_cell Kg3_3.out 3).trans rfl; have fg3_4 : w3.cell? ⟨g3, 4, none⟩ = some (.int .i64 hg) := (blk_cell Kg3_3.out 4).trans rfl; have fg3_5 : w3.cell? ⟨g3, 5, none⟩ = some (.slice A3 pix.length c3) := (blk_cell Kg3_3.out 5).trans rfl; have fg2_0 : w3.cell? ⟨g2, 0, none⟩ = some (.int .i64 0) := (blk_cell Kg2_3.out 0).trans rfl; have fg2_1 : w3.cell? ⟨g2, 1, none⟩ = some (.int .i64 0) := (blk_cell Kg2_3.out 1).trans rfl; have fg2_2 : w3.cell? ⟨g2, 2, none⟩ = some (.int .i64 0) := (blk_cell Kg2_3.out 2).trans rfl; have fg2_3 : w3.cell? ⟨g2, 3, none⟩ = some (.slice none 0 0) := (blk_cell Kg2_3.out 3).trans rfl; have yg2_0 := blk_frozen Kg2_3.out 0; have yg2_1 := blk_frozen Kg2_3.out 1; have yg2_2 := blk_frozen Kg2_3.out 2; have yg2_3 := blk_frozen Kg2_3.out 3; clear hbox hb hg_))
  refine bodyPost_ret (results_ct rfl _ _ g2 28 #[.int .i64 0, .int .i64 0, .int .i64 0, .slice none 0 0] (0, 0) _ rfl (by
    refine blk_put (cs := #[.int .i64 0, .int .i64 0, .int .i64 0, .slice none 0 0]) ?_ 3 _ rfl
    refine blk_put (cs := #[.int .i64 0, .int .i64 0, .int .i64 0, .slice none 0 0]) ?_ 2 _ rfl
    refine blk_put (cs := #[.int .i64 0, .int .i64 0, .int .i64 0, .slice none 0 0]) ?_ 1 _ rfl
    refine blk_put (cs := #[.int .i64 0, .int .i64 0, .int .i64 0, .slice none 0 0]) ?_ 0 _ rfl
    exact Kg2_3.out
    ) hu rfl (by kernel_rfl)) rfl ?_
  have G2 := Gg2.out
  exact ⟨_, rfl, Kd.R_nil _ _ _ _ _, below_set (below_set (below_set (below_set HB3.out (by omega)) (by omega)) (by omega)) (by omega)⟩
theorem impl_doStep.calls (a b p : Int) (A : Option Addr) (c : Nat) (d : List Int) (kind x y wd hg : Int) (A3 : Option Addr) (c3 : Nat) (pix : List Int) (r1 r2 r3 : Int) (r4 : List Int) (r5 : Bool) (w : World) (hr0_3 : Kd.C (Kd.int .i64) w A d.length d) (hc0_3 : d.length ≤ c) (hr1_5 : Kd.C (Kd.int .i64) w A3 pix.length pix) (hc1_5 : pix.length ≤ c3) (h : impl_doStep.f a b p d kind x y wd hg pix = some (r1, r2, r3, r4, r5)) :
    Calls Try.prog 45 #[.agg #[.int .i64 a, .int .i64 b, .int .i64 p, .slice A d.length c], .agg #[.int .i64 kind, .int .i64 x, .int .i64 y, .int .i64 wd, .int .i64 hg, .slice A3 pix.length c3]] w fun e w' => ∃ v3_ : Value, e = .returned (.tuple #[.agg #[.int .i64 r1, .int .i64 r2, .int .i64 r3, v3_], .bool r5]) ∧ Kd.R (Kd.int .i64) 3 w' w.heap.size (fun _ => True) v3_ r4 ∧ Below w.heap.size w w' := by
  unfold impl_doStep.f at h
  by_cases hv1 : validI a b p d = true
  · rw [if_pos hv1] at h
    have hv := Option.some.inj h
    clear h
    unfold doStepV at hv
    by_cases h0 : kind = 0
    · subst h0
      rw [if_pos rfl] at hv
      obtain ⟨rfl, rfl, rfl, rfl, rfl⟩ : a = r1 ∧ b = r2 ∧ p = r3 ∧ imgD (mirPx a p d) a.toNat b.toNat = r4 ∧ true = r5 := by simpa using hv
      exact step0 a b p A c d x y wd hg A3 c3 pix w hr0_3 hc0_3 hr1_5 hc1_5 hv1
    rw [if_neg h0] at hv
    by_cases h1 : kind = 1
    · subst h1
      rw [if_pos rfl] at hv
      obtain ⟨rfl, rfl, rfl, rfl, rfl⟩ : b = r1 ∧ a = r2 ∧ p = r3 ∧ imgD (turnPx a b p d) b.toNat a.toNat = r4 ∧ true = r5 := by simpa using hv
      exact step1 a b p A c d x y wd hg A3 c3 pix w hr0_3 hc0_3 hr1_5 hc1_5 hv1
    rw [if_neg h1] at hv
    by_cases h2 : kind = 2
    · subst h2
      rw [if_pos rfl] at hv
      obtain ⟨rfl, rfl, rfl, rfl, rfl⟩ : a = r1 ∧ b = r2 ∧ p = r3 ∧ invD d = r4 ∧ true = r5 := by simpa using hv
      exact step2 a b p A c d x y wd hg A3 c3 pix w hr0_3 hc0_3 hr1_5 hc1_5 hv1
    rw [if_neg h2] at hv
    by_cases h3 : kind = 3
    · subst h3
      rw [if_pos rfl] at hv
      cases hv2 : boxOn a b x y wd hg with
      | true =>
        rw [hv2, if_pos rfl] at hv
        obtain ⟨rfl, rfl, rfl, rfl, rfl⟩ : wd = r1 ∧ hg = r2 ∧ p = r3 ∧ imgD (cropPx a p d x.toNat y.toNat) wd.toNat hg.toNat = r4 ∧ true = r5 := by simpa using hv
        exact step3_yes a b p A c d x y wd hg A3 c3 pix w hr0_3 hc0_3 hr1_5 hc1_5 hv1 hv2
      | false =>
        rw [hv2, if_neg (by simp)] at hv
        obtain ⟨rfl, rfl, rfl, rfl, rfl⟩ : 0 = r1 ∧ 0 = r2 ∧ 0 = r3 ∧ [] = r4 ∧ false = r5 := by simpa using hv
        exact step3_no a b p A c d x y wd hg A3 c3 pix w hr0_3 hc0_3 hr1_5 hc1_5 hv1 hv2
    rw [if_neg h3] at hv
    by_cases h4 : kind = 4
    · subst h4
      rw [if_pos rfl] at hv
      cases hv2 : boxOn a b x y wd hg with
      | false =>
        rw [hv2, if_neg (by simp)] at hv
        obtain ⟨rfl, rfl, rfl, rfl, rfl⟩ : 0 = r1 ∧ 0 = r2 ∧ 0 = r3 ∧ [] = r4 ∧ false = r5 := by simpa using hv
        exact step4_no1 a b p A c d x y wd hg A3 c3 pix w hr0_3 hc0_3 hr1_5 hc1_5 hv1 hv2
      | true =>
        by_cases hv3 : (pix.length : Int) = p
        · cases hv4 : pix.all byteI with
          | false =>
            rw [hv2, hv4, if_neg (by simp)] at hv
            obtain ⟨rfl, rfl, rfl, rfl, rfl⟩ : 0 = r1 ∧ 0 = r2 ∧ 0 = r3 ∧ [] = r4 ∧ false = r5 := by simpa using hv
            subst hv3
            exact step4_no3 a b A c d x y wd hg A3 c3 pix w hr0_3 hc0_3 hr1_5 hc1_5 hv1 hv2 hv4
          | true =>
            rw [hv2, hv4, if_pos ⟨rfl, hv3, rfl⟩] at hv
            have hs := ((validI_iff a b p d).1 hv1).1
            have hbx := (boxOn_iff a b x y wd hg).1 hv2
            subst hv3
            obtain ⟨an, rfl⟩ := Int.eq_ofNat_of_zero_le (show 0 ≤ a by omega)
            obtain ⟨bn, rfl⟩ := Int.eq_ofNat_of_zero_le (show 0 ≤ b by omega)
            obtain ⟨xn, rfl⟩ := Int.eq_ofNat_of_zero_le (show 0 ≤ x by omega)
            obtain ⟨yn, rfl⟩ := Int.eq_ofNat_of_zero_le (show 0 ≤ y by omega)
            obtain ⟨wn, rfl⟩ := Int.eq_ofNat_of_zero_le (show 0 ≤ wd by omega)
            obtain ⟨hn, rfl⟩ := Int.eq_ofNat_of_zero_le (show 0 ≤ hg by omega)
            obtain ⟨rfl, rfl, rfl, rfl, rfl⟩ : (an : Int) = r1 ∧ (bn : Int) = r2 ∧ (pix.length : Int) = r3 ∧ imgD (fillPx an (pix.length : Int) d xn yn wn hn pix) an bn = r4 ∧ true = r5 := by simpa using hv
            exact step4_yes an bn A c d xn yn wn hn A3 c3 pix w hr0_3 hc0_3 hr1_5 hc1_5 hv1 hv2 hv4
        · rw [if_neg (fun h => hv3 h.2.1)] at hv
          obtain ⟨rfl, rfl, rfl, rfl, rfl⟩ : 0 = r1 ∧ 0 = r2 ∧ 0 = r3 ∧ [] = r4 ∧ false = r5 := by simpa using hv
          exact step4_no2 a b p A c d x y wd hg A3 c3 pix w hr0_3 hc0_3 hr1_5 hc1_5 hv1 hv2 hv3
    rw [if_neg h4] at hv
    obtain ⟨rfl, rfl, rfl, rfl, rfl⟩ : 0 = r1 ∧ 0 = r2 ∧ 0 = r3 ∧ [] = r4 ∧ false = r5 := by simpa using hv
    exact step5 a b p A c d kind x y wd hg A3 c3 pix w hr0_3 hc0_3 hr1_5 hc1_5 hv1 h0 h1 h2 h3 h4
  · rw [if_neg hv1] at h; cases h
end Go.Proofs.Ytgccpcnakkioiaa.Q

namespace Go.Proofs.Ytgccpcnakkioiaa.Q
open Go.RowKit Go.Proofs.YtgccpcnakkioiaaW.PrintWords Go.Proofs.YtgccpcnakkioiaaW.PrintLast Go.Proofs.YtgccpcnakkioiaaW.PrintMore
attribute [local go_sem] max2_int min2_int max_two min_two max_three min_three max_four min_four
set_option linter.unusedVariables false
set_option linter.unusedSimpArgs false
def impl_DoStep.f (a0_0 : Int) (a0_1 : Int) (a0_2 : Int) (l0_3 : List Int) (a1_0 : Int) (a1_1 : Int) (a1_2 : Int) (a1_3 : Int) (a1_4 : Int) (l1_5 : List Int) : Option (Int × Int × Int × List Int × Bool) := (impl_isImage.f a0_0 a0_1 a0_2 l0_3).bind fun t23004 => (if t23004 = true then ((impl_doStep.f a0_0 a0_1 a0_2 l0_3 a1_0 a1_1 a1_2 a1_3 a1_4 l1_5).bind fun bt23005 => (some (bt23005.1, bt23005.2.1, bt23005.2.2.1, bt23005.2.2.2.1, bt23005.2.2.2.2))) else (some (0, 0, 0, ([] : List Int), false)))
set_option maxHeartbeats 8000000 in
set_option maxRecDepth 100000 in
theorem impl_DoStep.calls (a0_0 : Int) (a0_1 : Int) (a0_2 : Int) (A0_3 : Option Addr) (c0_3 : Nat) (l0_3 : List Int) (a1_0 : Int) (a1_1 : Int) (a1_2 : Int) (a1_3 : Int) (a1_4 : Int) (A1_5 : Option Addr) (c1_5 : Nat) (l1_5 : List Int) (r1 : Int) (r2 : Int) (r3 : Int) (r4 : List Int) (r5 : Bool) (w : World) (hr0_3 : Kd.C (Kd.int .i64) w A0_3 l0_3.length l0_3) (hc0_3 : l0_3.length ≤ c0_3) (hr1_5 : Kd.C (Kd.int .i64) w A1_5 l1_5.length l1_5) (hc1_5 : l1_5.length ≤ c1_5) (h : impl_DoStep.f a0_0 a0_1 a0_2 l0_3 a1_0 a1_1 a1_2 a1_3 a1_4 l1_5 = some (r1, r2, r3, r4, r5)) :
    Calls Try.prog 22 #[.agg #[.int .i64 a0_0, .int .i64 a0_1, .int .i64 a0_2, .slice A0_3 l0_3.length c0_3], .agg #[.int .i64 a1_0, .int .i64 a1_1, .int .i64 a1_2, .int .i64 a1_3, .int .i64 a1_4, .slice A1_5 l1_5.length c1_5]] w fun e w' => ∃ v3_ : Value, e = .returned (.tuple #[.agg #[.int .i64 r1, .int .i64 r2, .int .i64 r3, v3_], .bool r5]) ∧ Kd.R (Kd.int .i64) 3 w' w.heap.size (fun _ => True) v3_ r4 ∧ Below w.heap.size w w' := by
  have hu28 := Try.underlying28
  have hu43 := Try.underlying43
  have HR0_3 := Aside0.mk hr0_3
  have HC0_3 := Aside0.mk hc0_3
  clear hr0_3 hc0_3
  have HR1_5 := Aside0.mk hr1_5
  have HC1_5 := Aside0.mk hc1_5
  clear hr1_5 hc1_5
  have HB := Aside0.mk (Below.refl w.heap.size w)
  have H : ((impl_isImage.f a0_0 a0_1 a0_2 l0_3).bind fun t23004 => (if t23004 = true then ((impl_doStep.f a0_0 a0_1 a0_2 l0_3 a1_0 a1_1 a1_2 a1_3 a1_4 l1_5).bind fun bt23005 => (some (bt23005.1, bt23005.2.1, bt23005.2.2.1, bt23005.2.2.2.1, bt23005.2.2.2.2))) else (some (0, 0, 0, ([] : List Int), false)))) = some (r1, r2, r3, r4, r5) := h
  clear h
  replace H := Option.bind_eq_some_iff.mp H
  obtain ⟨t23004, A30, H⟩ := H
  replace H : (if t23004 = true then ((impl_doStep.f a0_0 a0_1 a0_2 l0_3 a1_0 a1_1 a1_2 a1_3 a1_4 l1_5).bind fun bt23005 => (some (bt23005.1, bt23005.2.1, bt23005.2.2.1, bt23005.2.2.2.1, bt23005.2.2.2.2))) else (some (0, 0, 0, ([] : List Int), false))) = some (r1, r2, r3, r4, r5) := H
  have A3 := Aside0.mk A30
  clear A30
  by_cases c4 : t23004 = true
  · subst c4
    have H1 : ((impl_doStep.f a0_0 a0_1 a0_2 l0_3 a1_0 a1_1 a1_2 a1_3 a1_4 l1_5).bind fun bt23005 => (some (bt23005.1, bt23005.2.1, bt23005.2.2.1, bt23005.2.2.2.1, bt23005.2.2.2.2))) = some (r1, r2, r3, r4, r5) := by rw [if_pos rfl] at H; exact H
    clear H
    have H := H1
    clear H1
    replace H := Option.bind_eq_some_iff.mp H
    obtain ⟨⟨t23005, t23006, t23007, t23008, t23011⟩, A50, H⟩ := H
    replace H : (some (t23005, t23006, t23007, t23008, t23011)) = some (r1, r2, r3, r4, r5) := H
    have A5 := Aside0.mk A50
    clear A50
    simp only [Option.some.injEq, Prod.mk.injEq] at H
    obtain ⟨rfl, rfl, rfl, rfl, rfl⟩ := H
    go_enter Try.func22, Try.ntmps22
    go_wp2_with (first | ((with_reducible refine gate_dst (N := 2) rfl ?_); refine box_event ?hg (N := 2) ?hd (cs := #[.int .i64 a0_0, .int .i64 a0_1, .int .i64 a0_2, .slice A0_3 l0_3.length c0_3]) (t := 28) ?hr ?_; (case hd => rfl); (case hg => rfl); (case hr => (go_simp; done)); intro gb23001 hg w6 hbox hb; have n0_ := Aside0.mk (below_step HB.out hb); have n1_ := Aside0.mk (hbox); have n2_ := Aside0.mk ((by rw [hg]; exact (below_size HB.out) : w.heap.size ≤ gb23001)); have n3_ := Aside0.mk ((by rw [hg]; exact (below_size HB.out) : w.heap.size ≤ gb23001)); clear HB; have HB := n0_; have BK23001 := n1_; have GW23001 := n2_; have GE23001 := n3_; clear n0_ n1_ n2_ n3_; clear hb hbox hg) | ((with_reducible refine gate_dst (N := 3) rfl ?_); refine box_event ?hg (N := 3) ?hd (cs := #[.int .i64 a1_0, .int .i64 a1_1, .int .i64 a1_2, .int .i64 a1_3, .int .i64 a1_4, .slice A1_5 l1_5.length c1_5]) (t := 43) ?hr ?_; (case hd => rfl); (case hg => rfl); (case hr => (go_simp; done)); intro gb23002 hg w7 hbox hb; have n0_ := Aside0.mk (blk_below BK23001.out hb); have n1_ := Aside0.mk (below_step HB.out hb); have n2_ := Aside0.mk (hbox); have n3_ := Aside0.mk ((by rw [hg]; exact (below_size HB.out) : w.heap.size ≤ gb23002)); have n4_ := Aside0.mk ((by rw [hg]; exact (below_size HB.out) : w.heap.size ≤ gb23002)); have n5_ := Aside0.mk ((by rw [hg]; exact Nat.ne_of_lt (blk_lt BK23001.out) : gb23001 ≠ gb23002)); have n6_ := Aside0.mk ((by rw [hg]; exact Nat.ne_of_gt (blk_lt BK23001.out) : gb23002 ≠ gb23001)); clear BK23001; clear HB; have BK23001 := n0_; have HB := n1_; have BK23002 := n2_; have GW23002 := n3_; have GE23002 := n4_; have NB23001_23002 := n5_; have NB23002_23001 := n6_; clear n0_ n1_ n2_ n3_ n4_ n5_ n6_; clear hb hbox hg) | ((with_reducible refine gate_dst (N := 4) rfl ?_); refine box_event ?hg (N := 4) ?hd (cs := #[.int .i64 0, .int .i64 0, .int .i64 0, .slice none 0 0]) (t := 28) ?hr ?_; (case hd => rfl); (case hg => rfl); (case hr => (go_simp; done)); intro gb23003 hg w8 hbox hb; have n0_ := Aside0.mk (blk_below BK23001.out hb); have n1_ := Aside0.mk (blk_below BK23002.out hb); have n2_ := Aside0.mk (below_step HB.out hb); have n3_ := Aside0.mk (hbox); have n4_ := Aside0.mk ((by rw [hg]; exact (below_size HB.out) : w.heap.size ≤ gb23003)); have n5_ := Aside0.mk ((by rw [hg]; exact (below_size HB.out) : w.heap.size ≤ gb23003)); have n6_ := Aside0.mk ((by rw [hg]; exact Nat.ne_of_lt (blk_lt BK23001.out) : gb23001 ≠ gb23003)); have n7_ := Aside0.mk ((by rw [hg]; exact Nat.ne_of_gt (blk_lt BK23001.out) : gb23003 ≠ gb23001)); have n8_ := Aside0.mk ((by rw [hg]; exact Nat.ne_of_lt (blk_lt BK23002.out) : gb23002 ≠ gb23003)); have n9_ := Aside0.mk ((by rw [hg]; exact Nat.ne_of_gt (blk_lt BK23002.out) : gb23003 ≠ gb23002)); clear BK23001; clear BK23002; clear HB; have BK23001 := n0_; have BK23002 := n1_; have HB := n2_; have BK23003 := n3_; have GW23003 := n4_; have GE23003 := n5_; have NB23001_23003 := n6_; have NB23003_23001 := n7_; have NB23002_23003 := n8_; have NB23003_23002 := n9_; clear n0_ n1_ n2_ n3_ n4_ n5_ n6_ n7_ n8_ n9_; clear hb hbox hg; have hnb9 := NB23001_23002.out; have hnc9 := NB23002_23001.out; have hnb10 := NB23001_23003.out; have hnc10 := NB23003_23001.out; have hcz11_0 : w8.cell? ⟨gb23001, 0, none⟩ = some (.int .i64 a0_0) := (blk_cell BK23001.out 0).trans rfl; have hcz11_1 : w8.cell? ⟨gb23001, 1, none⟩ = some (.int .i64 a0_1) := (blk_cell BK23001.out 1).trans rfl; have hcz11_2 : w8.cell? ⟨gb23001, 2, none⟩ = some (.int .i64 a0_2) := (blk_cell BK23001.out 2).trans rfl; have hcz11_3 : w8.cell? ⟨gb23001, 3, none⟩ = some (.slice A0_3 l0_3.length c0_3) := (blk_cell BK23001.out 3).trans rfl; have hfz11_0 := blk_frozen BK23001.out 0; have hfz11_1 := blk_frozen BK23001.out 1; have hfz11_2 := blk_frozen BK23001.out 2; have hfz11_3 := blk_frozen BK23001.out 3) | ((with_reducible refine gate_callee (f := 43) rfl ?_); refine goesL_ (some 7) rfl rfl Try.func43 (by kernel_rfl) rfl #[.agg #[.int .i64 a0_0, .int .i64 a0_1, .int .i64 a0_2, .slice A0_3 l0_3.length c0_3]] rfl (by (try simp only [List.map_toArray, List.map_cons, List.map_nil]); rfl) ?_; (with_reducible refine (impl_isImage.calls a0_0 a0_1 a0_2 _ _ l0_3 true _ ?side1 ?side2 A3.out).mono ?_); (case side1 => repeat (exact (Kd.C_below HR0_3.out HB.out))); (case side2 => exact HC0_3.out); rintro e w12 ⟨rfl, hb⟩; refine ⟨_, rfl, ?_⟩; have n0_ := Aside0.mk (blk_below BK23001.out hb); have n1_ := Aside0.mk (blk_below BK23002.out hb); have n2_ := Aside0.mk (blk_below BK23003.out hb); have n3_ := Aside0.mk (below_step HB.out hb); clear BK23001; clear BK23002; clear BK23003; clear HB; have BK23001 := n0_; have BK23002 := n1_; have BK23003 := n2_; have HB := n3_; clear n0_ n1_ n2_ n3_; (try clear hb); have hcz13_0 : w12.cell? ⟨gb23001, 0, none⟩ = some (.int .i64 a0_0) := (blk_cell BK23001.out 0).trans rfl; have hcz13_1 : w12.cell? ⟨gb23001, 1, none⟩ = some (.int .i64 a0_1) := (blk_cell BK23001.out 1).trans rfl; have hcz13_2 : w12.cell? ⟨gb23001, 2, none⟩ = some (.int .i64 a0_2) := (blk_cell BK23001.out 2).trans rfl; have hcz13_3 : w12.cell? ⟨gb23001, 3, none⟩ = some (.slice A0_3 l0_3.length c0_3) := (blk_cell BK23001.out 3).trans rfl; have hfz13_0 := blk_frozen BK23001.out 0; have hfz13_1 := blk_frozen BK23001.out 1; have hfz13_2 := blk_frozen BK23001.out 2; have hfz13_3 := blk_frozen BK23001.out 3; have hnb14 := NB23002_23003.out; have hnc14 := NB23003_23002.out; have hcz15_0 : w12.cell? ⟨gb23002, 0, none⟩ = some (.int .i64 a1_0) := (blk_cell BK23002.out 0).trans rfl; have hcz15_1 : w12.cell? ⟨gb23002, 1, none⟩ = some (.int .i64 a1_1) := (blk_cell BK23002.out 1).trans rfl; have hcz15_2 : w12.cell? ⟨gb23002, 2, none⟩ = some (.int .i64 a1_2) := (blk_cell BK23002.out 2).trans rfl; have hcz15_3 : w12.cell? ⟨gb23002, 3, none⟩ = some (.int .i64 a1_3) := (blk_cell BK23002.out 3).trans rfl; have hcz15_4 : w12.cell? ⟨gb23002, 4, none⟩ = some (.int .i64 a1_4) := (blk_cell BK23002.out 4).trans rfl; have hcz15_5 : w12.cell? ⟨gb23002, 5, none⟩ = some (.slice A1_5 l1_5.length c1_5) := (blk_cell BK23002.out 5).trans rfl; have hfz15_0 := blk_frozen BK23002.out 0; have hfz15_1 := blk_frozen BK23002.out 1; have hfz15_2 := blk_frozen BK23002.out 2; have hfz15_3 := blk_frozen BK23002.out 3; have hfz15_4 := blk_frozen BK23002.out 4; have hfz15_5 := blk_frozen BK23002.out 5) | ((with_reducible refine gate_callee (f := 45) rfl ?_); refine goesL_ (some 12) rfl rfl Try.func45 (by kernel_rfl) rfl #[.agg #[.int .i64 a0_0, .int .i64 a0_1, .int .i64 a0_2, .slice A0_3 l0_3.length c0_3], .agg #[.int .i64 a1_0, .int .i64 a1_1, .int .i64 a1_2, .int .i64 a1_3, .int .i64 a1_4, .slice A1_5 l1_5.length c1_5]] rfl (by (try simp only [List.map_toArray, List.map_cons, List.map_nil]); rfl) ?_; (with_reducible refine (impl_doStep.calls a0_0 a0_1 a0_2 _ _ l0_3 a1_0 a1_1 a1_2 a1_3 a1_4 _ _ l1_5 t23005 t23006 t23007 t23008 t23011 _ ?side1 ?side2 ?side3 ?side4 A5.out).mono ?_); (case side1 => repeat (exact (Kd.C_below HR0_3.out HB.out))); (case side2 => exact HC0_3.out); (case side3 => repeat (exact (Kd.C_below HR1_5.out HB.out))); (case side4 => exact HC1_5.out); rintro e w16 ⟨v23009, rfl, ho0, hb⟩; refine ⟨_, rfl, ?_⟩; have n0_ := Aside0.mk (Kd.R_lower ho0 (below_size HB.out)); have n1_ := Aside0.mk (blk_below BK23001.out hb); have n2_ := Aside0.mk (blk_below BK23002.out hb); have n3_ := Aside0.mk (blk_below BK23003.out hb); have n4_ := Aside0.mk (below_step HB.out hb); clear BK23001; clear BK23002; clear BK23003; clear HB; have HO23010 := n0_; have BK23001 := n1_; have BK23002 := n2_; have BK23003 := n3_; have HB := n4_; clear n0_ n1_ n2_ n3_ n4_; (try clear hb); (try clear ho0); have hcz17_0 : w16.cell? ⟨gb23003, 0, none⟩ = some (.int .i64 0) := (blk_cell BK23003.out 0).trans rfl; have hcz17_1 : w16.cell? ⟨gb23003, 1, none⟩ = some (.int .i64 0) := (blk_cell BK23003.out 1).trans rfl; have hcz17_2 : w16.cell? ⟨gb23003, 2, none⟩ = some (.int .i64 0) := (blk_cell BK23003.out 2).trans rfl; have hcz17_3 : w16.cell? ⟨gb23003, 3, none⟩ = some (.slice none 0 0) := (blk_cell BK23003.out 3).trans rfl; have hfz17_0 := blk_frozen BK23003.out 0; have hfz17_1 := blk_frozen BK23003.out 1; have hfz17_2 := blk_frozen BK23003.out 2; have hfz17_3 := blk_frozen BK23003.out 3; obtain ⟨Ao18, co18, eo18⟩ := Kd.R_slice HO23010.out; subst eo18))
    refine bodyPost_ret (results_ct rfl _ _ gb23003 28 #[.int .i64 t23005, .int .i64 t23006, .int .i64 t23007, .slice Ao18 t23008.length co18] (0, 0) _ rfl (by refine blk_put (cs := #[.int .i64 t23005, .int .i64 t23006, .int .i64 t23007, .slice none 0 0]) ?_ 3 _ rfl; (with_reducible repeat (first | refine blk_drewN ?_ _ | refine blk_drew ?_ | refine blk_alloc ?_ _)); refine blk_put (cs := #[.int .i64 t23005, .int .i64 t23006, .int .i64 0, .slice none 0 0]) ?_ 2 _ rfl; (with_reducible repeat (first | refine blk_drewN ?_ _ | refine blk_drew ?_ | refine blk_alloc ?_ _)); refine blk_put (cs := #[.int .i64 t23005, .int .i64 0, .int .i64 0, .slice none 0 0]) ?_ 1 _ rfl; (with_reducible repeat (first | refine blk_drewN ?_ _ | refine blk_drew ?_ | refine blk_alloc ?_ _)); refine blk_put (cs := #[.int .i64 0, .int .i64 0, .int .i64 0, .slice none 0 0]) ?_ 0 _ rfl; (with_reducible repeat (first | refine blk_drewN ?_ _ | refine blk_drew ?_ | refine blk_alloc ?_ _)); exact BK23003.out) Try.underlying28 rfl (by kernel_rfl)) rfl ?_
    exact ⟨_, by rfl, by (with_reducible repeat (first | apply Kd.R_alloc | apply Kd.R_drewN | apply Kd.R_drew)); exact Kd.R_mono (Kd.R_far (p := ⟨gb23003, 3, none⟩) (Kd.R_far (p := ⟨gb23003, 2, none⟩) (Kd.R_far (p := ⟨gb23003, 1, none⟩) (Kd.R_far (p := ⟨gb23003, 0, none⟩) (Kd.R_types HO23010.out BK23003.out (by decide)) (fun _ hk => hk.2) (.int .i64 t23005)) (fun _ hk => hk.2) (.int .i64 t23006)) (fun _ hk => hk.2) (.int .i64 t23007)) (fun _ hk => hk.2) (.slice Ao18 t23008.length co18)) (fun _ hk => trivial), by repeat (with_reducible first | exact HB.out | refine below_set ?_ GE23003.out)⟩
  · replace c4 := Bool.eq_false_iff.mpr c4
    subst c4
    have H1 : (some (0, 0, 0, ([] : List Int), false)) = some (r1, r2, r3, r4, r5) := by rw [if_neg (show ¬ (false = true) by decide)] at H; exact H
    clear H
    have H := H1
    clear H1
    simp only [Option.some.injEq, Prod.mk.injEq] at H
    obtain ⟨rfl, rfl, rfl, rfl, rfl⟩ := H
    go_enter Try.func22, Try.ntmps22
    go_wp2_with (first | ((with_reducible refine gate_dst (N := 2) rfl ?_); refine box_event ?hg (N := 2) ?hd (cs := #[.int .i64 a0_0, .int .i64 a0_1, .int .i64 a0_2, .slice A0_3 l0_3.length c0_3]) (t := 28) ?hr ?_; (case hd => rfl); (case hg => rfl); (case hr => (go_simp; done)); intro gb23001 hg w19 hbox hb; have n0_ := Aside0.mk (below_step HB.out hb); have n1_ := Aside0.mk (hbox); have n2_ := Aside0.mk ((by rw [hg]; exact (below_size HB.out) : w.heap.size ≤ gb23001)); have n3_ := Aside0.mk ((by rw [hg]; exact (below_size HB.out) : w.heap.size ≤ gb23001)); clear HB; have HB := n0_; have BK23001 := n1_; have GW23001 := n2_; have GE23001 := n3_; clear n0_ n1_ n2_ n3_; clear hb hbox hg) | ((with_reducible refine gate_dst (N := 3) rfl ?_); refine box_event ?hg (N := 3) ?hd (cs := #[.int .i64 a1_0, .int .i64 a1_1, .int .i64 a1_2, .int .i64 a1_3, .int .i64 a1_4, .slice A1_5 l1_5.length c1_5]) (t := 43) ?hr ?_; (case hd => rfl); (case hg => rfl); (case hr => (go_simp; done)); intro gb23002 hg w20 hbox hb; have n0_ := Aside0.mk (blk_below BK23001.out hb); have n1_ := Aside0.mk (below_step HB.out hb); have n2_ := Aside0.mk (hbox); have n3_ := Aside0.mk ((by rw [hg]; exact (below_size HB.out) : w.heap.size ≤ gb23002)); have n4_ := Aside0.mk ((by rw [hg]; exact (below_size HB.out) : w.heap.size ≤ gb23002)); have n5_ := Aside0.mk ((by rw [hg]; exact Nat.ne_of_lt (blk_lt BK23001.out) : gb23001 ≠ gb23002)); have n6_ := Aside0.mk ((by rw [hg]; exact Nat.ne_of_gt (blk_lt BK23001.out) : gb23002 ≠ gb23001)); clear BK23001; clear HB; have BK23001 := n0_; have HB := n1_; have BK23002 := n2_; have GW23002 := n3_; have GE23002 := n4_; have NB23001_23002 := n5_; have NB23002_23001 := n6_; clear n0_ n1_ n2_ n3_ n4_ n5_ n6_; clear hb hbox hg) | ((with_reducible refine gate_dst (N := 4) rfl ?_); refine box_event ?hg (N := 4) ?hd (cs := #[.int .i64 0, .int .i64 0, .int .i64 0, .slice none 0 0]) (t := 28) ?hr ?_; (case hd => rfl); (case hg => rfl); (case hr => (go_simp; done)); intro gb23003 hg w21 hbox hb; have n0_ := Aside0.mk (blk_below BK23001.out hb); have n1_ := Aside0.mk (blk_below BK23002.out hb); have n2_ := Aside0.mk (below_step HB.out hb); have n3_ := Aside0.mk (hbox); have n4_ := Aside0.mk ((by rw [hg]; exact (below_size HB.out) : w.heap.size ≤ gb23003)); have n5_ := Aside0.mk ((by rw [hg]; exact (below_size HB.out) : w.heap.size ≤ gb23003)); have n6_ := Aside0.mk ((by rw [hg]; exact Nat.ne_of_lt (blk_lt BK23001.out) : gb23001 ≠ gb23003)); have n7_ := Aside0.mk ((by rw [hg]; exact Nat.ne_of_gt (blk_lt BK23001.out) : gb23003 ≠ gb23001)); have n8_ := Aside0.mk ((by rw [hg]; exact Nat.ne_of_lt (blk_lt BK23002.out) : gb23002 ≠ gb23003)); have n9_ := Aside0.mk ((by rw [hg]; exact Nat.ne_of_gt (blk_lt BK23002.out) : gb23003 ≠ gb23002)); clear BK23001; clear BK23002; clear HB; have BK23001 := n0_; have BK23002 := n1_; have HB := n2_; have BK23003 := n3_; have GW23003 := n4_; have GE23003 := n5_; have NB23001_23003 := n6_; have NB23003_23001 := n7_; have NB23002_23003 := n8_; have NB23003_23002 := n9_; clear n0_ n1_ n2_ n3_ n4_ n5_ n6_ n7_ n8_ n9_; clear hb hbox hg; have hnb22 := NB23001_23002.out; have hnc22 := NB23002_23001.out; have hnb23 := NB23001_23003.out; have hnc23 := NB23003_23001.out; have hcz24_0 : w21.cell? ⟨gb23001, 0, none⟩ = some (.int .i64 a0_0) := (blk_cell BK23001.out 0).trans rfl; have hcz24_1 : w21.cell? ⟨gb23001, 1, none⟩ = some (.int .i64 a0_1) := (blk_cell BK23001.out 1).trans rfl; have hcz24_2 : w21.cell? ⟨gb23001, 2, none⟩ = some (.int .i64 a0_2) := (blk_cell BK23001.out 2).trans rfl; have hcz24_3 : w21.cell? ⟨gb23001, 3, none⟩ = some (.slice A0_3 l0_3.length c0_3) := (blk_cell BK23001.out 3).trans rfl; have hfz24_0 := blk_frozen BK23001.out 0; have hfz24_1 := blk_frozen BK23001.out 1; have hfz24_2 := blk_frozen BK23001.out 2; have hfz24_3 := blk_frozen BK23001.out 3) | ((with_reducible refine gate_callee (f := 43) rfl ?_); refine goesL_ (some 7) rfl rfl Try.func43 (by kernel_rfl) rfl #[.agg #[.int .i64 a0_0, .int .i64 a0_1, .int .i64 a0_2, .slice A0_3 l0_3.length c0_3]] rfl (by (try simp only [List.map_toArray, List.map_cons, List.map_nil]); rfl) ?_; (with_reducible refine (impl_isImage.calls a0_0 a0_1 a0_2 _ _ l0_3 false _ ?side1 ?side2 A3.out).mono ?_); (case side1 => repeat (exact (Kd.C_below HR0_3.out HB.out))); (case side2 => exact HC0_3.out); rintro e w25 ⟨rfl, hb⟩; refine ⟨_, rfl, ?_⟩; have n0_ := Aside0.mk (blk_below BK23001.out hb); have n1_ := Aside0.mk (blk_below BK23002.out hb); have n2_ := Aside0.mk (blk_below BK23003.out hb); have n3_ := Aside0.mk (below_step HB.out hb); clear BK23001; clear BK23002; clear BK23003; clear HB; have BK23001 := n0_; have BK23002 := n1_; have BK23003 := n2_; have HB := n3_; clear n0_ n1_ n2_ n3_; (try clear hb); have hnb26 := NB23003_23002.out; have hnc26 := NB23002_23003.out; have hcz27_0 : w25.cell? ⟨gb23003, 0, none⟩ = some (.int .i64 0) := (blk_cell BK23003.out 0).trans rfl; have hcz27_1 : w25.cell? ⟨gb23003, 1, none⟩ = some (.int .i64 0) := (blk_cell BK23003.out 1).trans rfl; have hcz27_2 : w25.cell? ⟨gb23003, 2, none⟩ = some (.int .i64 0) := (blk_cell BK23003.out 2).trans rfl; have hcz27_3 : w25.cell? ⟨gb23003, 3, none⟩ = some (.slice none 0 0) := (blk_cell BK23003.out 3).trans rfl; have hfz27_0 := blk_frozen BK23003.out 0; have hfz27_1 := blk_frozen BK23003.out 1; have hfz27_2 := blk_frozen BK23003.out 2; have hfz27_3 := blk_frozen BK23003.out 3))
    refine bodyPost_ret (results_ct rfl _ _ gb23003 28 #[.int .i64 0, .int .i64 0, .int .i64 0, .slice none 0 0] (0, 0) _ rfl (by refine blk_put (cs := #[.int .i64 0, .int .i64 0, .int .i64 0, .slice none 0 0]) ?_ 3 _ rfl; (with_reducible repeat (first | refine blk_drewN ?_ _ | refine blk_drew ?_ | refine blk_alloc ?_ _)); refine blk_put (cs := #[.int .i64 0, .int .i64 0, .int .i64 0, .slice none 0 0]) ?_ 2 _ rfl; (with_reducible repeat (first | refine blk_drewN ?_ _ | refine blk_drew ?_ | refine blk_alloc ?_ _)); refine blk_put (cs := #[.int .i64 0, .int .i64 0, .int .i64 0, .slice none 0 0]) ?_ 1 _ rfl; (with_reducible repeat (first | refine blk_drewN ?_ _ | refine blk_drew ?_ | refine blk_alloc ?_ _)); refine blk_put (cs := #[.int .i64 0, .int .i64 0, .int .i64 0, .slice none 0 0]) ?_ 0 _ rfl; (with_reducible repeat (first | refine blk_drewN ?_ _ | refine blk_drew ?_ | refine blk_alloc ?_ _)); exact BK23003.out) Try.underlying28 rfl (by kernel_rfl)) rfl ?_
    exact ⟨_, by rfl, by exact Kd.R_nil _ _ _ _ _, by repeat (with_reducible first | exact HB.out | refine below_set ?_ GE23003.out)⟩


def laws_szStep.f (a0_0 : Int) (a0_1 : Int) (a0_2 : Int) (a0_3 : Int) (a0_4 : Int) (l0_5 : List Int) (a1 : Int) : Option (Int) := (laws_szIntS.f l0_5 a1).bind fun t33002 => (if t33002 < 0 then (some (-1)) else (some t33002))
set_option maxHeartbeats 8000000 in
set_option maxRecDepth 100000 in
theorem laws_szStep.calls (a0_0 : Int) (a0_1 : Int) (a0_2 : Int) (a0_3 : Int) (a0_4 : Int) (A0_5 : Option Addr) (c0_5 : Nat) (l0_5 : List Int) (a1 : Int) (r : Int) (w : World) (hr0_5 : Kd.C (Kd.int .i64) w A0_5 l0_5.length l0_5) (hc0_5 : l0_5.length ≤ c0_5) (h : laws_szStep.f a0_0 a0_1 a0_2 a0_3 a0_4 l0_5 a1 = some r) :
    Calls Try.prog 32 #[.agg #[.int .i64 a0_0, .int .i64 a0_1, .int .i64 a0_2, .int .i64 a0_3, .int .i64 a0_4, .slice A0_5 l0_5.length c0_5], .int .i64 a1] w fun e w' => e = .returned (.int .i64 r) ∧ Below w.heap.size w w' := by
  have hu57 := Try.underlying57
  have HR0_5 := Aside0.mk hr0_5
  have HC0_5 := Aside0.mk hc0_5
  clear hr0_5 hc0_5
  have HB := Aside0.mk (Below.refl w.heap.size w)
  have H : ((laws_szIntS.f l0_5 a1).bind fun t33002 => (if t33002 < 0 then (some (-1)) else (some t33002))) = some r := h
  clear h
  replace H := Option.bind_eq_some_iff.mp H
  obtain ⟨t33002, A30, H⟩ := H
  replace H : (if t33002 < 0 then (some (-1)) else (some t33002)) = some r := H
  have A3 := Aside0.mk A30
  clear A30
  by_cases c4 : t33002 < 0
  · rw [if_pos c4] at H
    have c4b0 : decide (t33002 < 0) = true := decide_eq_true c4
    clear c4
    obtain rfl := Option.some.inj H
    go_enter Try.func32, Try.ntmps32
    go_wp2_with (first | ((with_reducible refine gate_dst (N := 2) rfl ?_); refine box_event ?hg (N := 2) ?hd (cs := #[.int .i64 a0_0, .int .i64 a0_1, .int .i64 a0_2, .int .i64 a0_3, .int .i64 a0_4, .slice A0_5 l0_5.length c0_5]) (t := 57) ?hr ?_; (case hd => rfl); (case hg => rfl); (case hr => first | (go_simp; done) | (go_simp; rfl)); intro gb33001 hg w5 hbox hb; have n0_ := Aside0.mk (below_step (by repeat (first | (with_reducible first | exact HB.out | apply below_alloc | apply pw_below_drewN | apply below_drew1) | exact HB.out)) hb); have n1_ := Aside0.mk (hbox); have n2_ := Aside0.mk ((by rw [hg]; exact (below_size (by repeat (first | (with_reducible first | exact HB.out | apply below_alloc | apply pw_below_drewN | apply below_drew1) | exact HB.out))) : w.heap.size ≤ gb33001)); have n3_ := Aside0.mk ((by rw [hg]; exact (below_size (by repeat (first | (with_reducible first | exact HB.out | apply below_alloc | apply pw_below_drewN | apply below_drew1) | exact HB.out))) : w.heap.size ≤ gb33001)); clear HB; have HB := n0_; have BK33001 := n1_; have GW33001 := n2_; have GE33001 := n3_; clear n0_ n1_ n2_ n3_; clear hb hbox hg; have hcz6_0 : w5.cell? ⟨gb33001, 0, none⟩ = some (.int .i64 a0_0) := (blk_cell BK33001.out 0).trans rfl; have hcz6_1 : w5.cell? ⟨gb33001, 1, none⟩ = some (.int .i64 a0_1) := (blk_cell BK33001.out 1).trans rfl; have hcz6_2 : w5.cell? ⟨gb33001, 2, none⟩ = some (.int .i64 a0_2) := (blk_cell BK33001.out 2).trans rfl; have hcz6_3 : w5.cell? ⟨gb33001, 3, none⟩ = some (.int .i64 a0_3) := (blk_cell BK33001.out 3).trans rfl; have hcz6_4 : w5.cell? ⟨gb33001, 4, none⟩ = some (.int .i64 a0_4) := (blk_cell BK33001.out 4).trans rfl; have hcz6_5 : w5.cell? ⟨gb33001, 5, none⟩ = some (.slice A0_5 l0_5.length c0_5) := (blk_cell BK33001.out 5).trans rfl; have hfz6_0 := blk_frozen BK33001.out 0; have hfz6_1 := blk_frozen BK33001.out 1; have hfz6_2 := blk_frozen BK33001.out 2; have hfz6_3 := blk_frozen BK33001.out 3; have hfz6_4 := blk_frozen BK33001.out 4; have hfz6_5 := blk_frozen BK33001.out 5) | ((with_reducible refine gate_callee (f := 38) rfl ?_); refine goesL_ (some 8) rfl rfl Try.func38 (by kernel_rfl) rfl #[.slice A0_5 l0_5.length c0_5, .int .i64 a1] rfl (by (try simp only [List.map_toArray, List.map_cons, List.map_nil]); first | done | rfl | (simp only [List.length_drop, List.length_take]; rfl)) ?_; (with_reducible refine (laws_szIntS.calls _ _ l0_5 a1 t33002 _ ?side1 ?side2 A3.out).mono ?_); (case side1 => repeat (first | exact (Kd.C_below HR0_5.out HB.out) | (with_reducible refine Kd.C_alloc ?_ _) | (with_reducible refine Kd.C_drewN ?_ _) | (with_reducible refine Kd.C_drew ?_))); (case side2 => exact HC0_5.out); rintro e w' ⟨rfl, ⟨nd, rfl⟩⟩; refine ⟨_, rfl, ?_⟩))
    go_ret
    exact ⟨by first | rfl | (simp [errW_none, errW_some] <;> rfl) | (simp [*, errW_none, errW_some] <;> rfl), by repeat (first | (with_reducible first | exact HB.out | apply below_alloc | apply pw_below_drewN | apply below_drew1 | refine below_set ?_ GE33001.out) | exact HB.out)⟩
  · rw [if_neg c4] at H
    have c4b0 : decide (t33002 < 0) = false := decide_eq_false c4
    clear c4
    obtain rfl := Option.some.inj H
    go_enter Try.func32, Try.ntmps32
    go_wp2_with (first | ((with_reducible refine gate_dst (N := 2) rfl ?_); refine box_event ?hg (N := 2) ?hd (cs := #[.int .i64 a0_0, .int .i64 a0_1, .int .i64 a0_2, .int .i64 a0_3, .int .i64 a0_4, .slice A0_5 l0_5.length c0_5]) (t := 57) ?hr ?_; (case hd => rfl); (case hg => rfl); (case hr => first | (go_simp; done) | (go_simp; rfl)); intro gb33001 hg w7 hbox hb; have n0_ := Aside0.mk (below_step (by repeat (first | (with_reducible first | exact HB.out | apply below_alloc | apply pw_below_drewN | apply below_drew1) | exact HB.out)) hb); have n1_ := Aside0.mk (hbox); have n2_ := Aside0.mk ((by rw [hg]; exact (below_size (by repeat (first | (with_reducible first | exact HB.out | apply below_alloc | apply pw_below_drewN | apply below_drew1) | exact HB.out))) : w.heap.size ≤ gb33001)); have n3_ := Aside0.mk ((by rw [hg]; exact (below_size (by repeat (first | (with_reducible first | exact HB.out | apply below_alloc | apply pw_below_drewN | apply below_drew1) | exact HB.out))) : w.heap.size ≤ gb33001)); clear HB; have HB := n0_; have BK33001 := n1_; have GW33001 := n2_; have GE33001 := n3_; clear n0_ n1_ n2_ n3_; clear hb hbox hg; have hcz8_0 : w7.cell? ⟨gb33001, 0, none⟩ = some (.int .i64 a0_0) := (blk_cell BK33001.out 0).trans rfl; have hcz8_1 : w7.cell? ⟨gb33001, 1, none⟩ = some (.int .i64 a0_1) := (blk_cell BK33001.out 1).trans rfl; have hcz8_2 : w7.cell? ⟨gb33001, 2, none⟩ = some (.int .i64 a0_2) := (blk_cell BK33001.out 2).trans rfl; have hcz8_3 : w7.cell? ⟨gb33001, 3, none⟩ = some (.int .i64 a0_3) := (blk_cell BK33001.out 3).trans rfl; have hcz8_4 : w7.cell? ⟨gb33001, 4, none⟩ = some (.int .i64 a0_4) := (blk_cell BK33001.out 4).trans rfl; have hcz8_5 : w7.cell? ⟨gb33001, 5, none⟩ = some (.slice A0_5 l0_5.length c0_5) := (blk_cell BK33001.out 5).trans rfl; have hfz8_0 := blk_frozen BK33001.out 0; have hfz8_1 := blk_frozen BK33001.out 1; have hfz8_2 := blk_frozen BK33001.out 2; have hfz8_3 := blk_frozen BK33001.out 3; have hfz8_4 := blk_frozen BK33001.out 4; have hfz8_5 := blk_frozen BK33001.out 5) | ((with_reducible refine gate_callee (f := 38) rfl ?_); refine goesL_ (some 8) rfl rfl Try.func38 (by kernel_rfl) rfl #[.slice A0_5 l0_5.length c0_5, .int .i64 a1] rfl (by (try simp only [List.map_toArray, List.map_cons, List.map_nil]); first | done | rfl | (simp only [List.length_drop, List.length_take]; rfl)) ?_; (with_reducible refine (laws_szIntS.calls _ _ l0_5 a1 t33002 _ ?side1 ?side2 A3.out).mono ?_); (case side1 => repeat (first | exact (Kd.C_below HR0_5.out HB.out) | (with_reducible refine Kd.C_alloc ?_ _) | (with_reducible refine Kd.C_drewN ?_ _) | (with_reducible refine Kd.C_drew ?_))); (case side2 => exact HC0_5.out); rintro e w' ⟨rfl, ⟨nd, rfl⟩⟩; refine ⟨_, rfl, ?_⟩))
    go_ret
    exact ⟨by first | rfl | (simp [errW_none, errW_some] <;> rfl) | (simp [*, errW_none, errW_some] <;> rfl), by repeat (first | (with_reducible first | exact HB.out | apply below_alloc | apply pw_below_drewN | apply below_drew1 | refine below_set ?_ GE33001.out) | exact HB.out)⟩


def laws_toBox.f (a0_0 : Int) (a0_1 : Int) (a0_2 : Int) (a0_3 : Int) : Option (Int × Int × Int × Int) := some (a0_0, a0_1, a0_2, a0_3)
set_option maxHeartbeats 8000000 in
set_option maxRecDepth 100000 in
theorem laws_toBox.calls (a0_0 : Int) (a0_1 : Int) (a0_2 : Int) (a0_3 : Int) (r1 : Int) (r2 : Int) (r3 : Int) (r4 : Int) (w : World) (h : laws_toBox.f a0_0 a0_1 a0_2 a0_3 = some (r1, r2, r3, r4)) :
    Calls Try.prog 64 #[.agg #[.int .i64 a0_0, .int .i64 a0_1, .int .i64 a0_2, .int .i64 a0_3]] w fun e w' => e = .returned (.agg #[.int .i64 r1, .int .i64 r2, .int .i64 r3, .int .i64 r4]) ∧ Below w.heap.size w w' := by
  have hu55 := Try.underlying55
  have hu41 := Try.underlying41
  have HB := Aside0.mk (Below.refl w.heap.size w)
  have H : (some (a0_0, a0_1, a0_2, a0_3)) = some (r1, r2, r3, r4) := h
  clear h
  simp only [Option.some.injEq, Prod.mk.injEq] at H
  obtain ⟨rfl, rfl, rfl, rfl⟩ := H
  go_enter Try.func64, Try.ntmps64
  go_wp2_with (first | ((with_reducible refine gate_dst (N := 1) rfl ?_); refine box_event ?hg (N := 1) ?hd (cs := #[.int .i64 a0_0, .int .i64 a0_1, .int .i64 a0_2, .int .i64 a0_3]) (t := 55) ?hr ?_; (case hd => rfl); (case hg => rfl); (case hr => first | (go_simp; done) | (go_simp; rfl)); intro gb65001 hg w2 hbox hb; have n0_ := Aside0.mk (below_step (by repeat (first | (with_reducible first | exact HB.out | apply below_alloc | apply pw_below_drewN | apply below_drew1) | exact HB.out)) hb); have n1_ := Aside0.mk (hbox); have n2_ := Aside0.mk ((by rw [hg]; exact (below_size (by repeat (first | (with_reducible first | exact HB.out | apply below_alloc | apply pw_below_drewN | apply below_drew1) | exact HB.out))) : w.heap.size ≤ gb65001)); have n3_ := Aside0.mk ((by rw [hg]; exact (below_size (by repeat (first | (with_reducible first | exact HB.out | apply below_alloc | apply pw_below_drewN | apply below_drew1) | exact HB.out))) : w.heap.size ≤ gb65001)); clear HB; have HB := n0_; have BK65001 := n1_; have GW65001 := n2_; have GE65001 := n3_; clear n0_ n1_ n2_ n3_; clear hb hbox hg) | ((with_reducible refine gate_dst (N := 2) rfl ?_); refine box_event ?hg (N := 2) ?hd (cs := #[.int .i64 0, .int .i64 0, .int .i64 0, .int .i64 0]) (t := 41) ?hr ?_; (case hd => rfl); (case hg => rfl); (case hr => first | (go_simp; done) | (go_simp; rfl)); intro gb65002 hg w3 hbox hb; have n0_ := Aside0.mk (blk_below (g := gb65001) (o := .cells #[.int .i64 a0_0, .int .i64 a0_1, .int .i64 a0_2, .int .i64 a0_3] 55 (0, 0)) (by (with_reducible repeat (first | refine blk_drewN ?_ _ | refine blk_drew ?_ | refine blk_alloc ?_ _)); exact BK65001.out) hb); have n1_ := Aside0.mk (below_step (by repeat (first | (with_reducible first | exact HB.out | apply below_alloc | apply pw_below_drewN | apply below_drew1 | refine below_set ?_ GE65001.out) | exact HB.out)) hb); have n2_ := Aside0.mk (hbox); have n3_ := Aside0.mk ((by rw [hg]; exact (below_size (by repeat (first | (with_reducible first | exact HB.out | apply below_alloc | apply pw_below_drewN | apply below_drew1 | refine below_set ?_ GE65001.out) | exact HB.out))) : w.heap.size ≤ gb65002)); have n4_ := Aside0.mk ((by rw [hg]; exact (below_size (by repeat (first | (with_reducible first | exact HB.out | apply below_alloc | apply pw_below_drewN | apply below_drew1 | refine below_set ?_ GE65001.out) | exact HB.out))) : w.heap.size ≤ gb65002)); have n5_ := Aside0.mk ((by rw [hg]; exact Nat.ne_of_lt (blk_lt (g := gb65001) (o := .cells #[.int .i64 a0_0, .int .i64 a0_1, .int .i64 a0_2, .int .i64 a0_3] 55 (0, 0)) (by (with_reducible repeat (first | refine blk_drewN ?_ _ | refine blk_drew ?_ | refine blk_alloc ?_ _)); exact BK65001.out)) : gb65001 ≠ gb65002)); have n6_ := Aside0.mk ((by rw [hg]; exact Nat.ne_of_gt (blk_lt (g := gb65001) (o := .cells #[.int .i64 a0_0, .int .i64 a0_1, .int .i64 a0_2, .int .i64 a0_3] 55 (0, 0)) (by (with_reducible repeat (first | refine blk_drewN ?_ _ | refine blk_drew ?_ | refine blk_alloc ?_ _)); exact BK65001.out)) : gb65002 ≠ gb65001)); clear BK65001; clear HB; have BK65001 := n0_; have HB := n1_; have BK65002 := n2_; have GW65002 := n3_; have GE65002 := n4_; have NB65001_65002 := n5_; have NB65002_65001 := n6_; clear n0_ n1_ n2_ n3_ n4_ n5_ n6_; clear hb hbox hg) | ((with_reducible refine gate_dst (N := 3) rfl ?_); refine box_event ?hg (N := 3) ?hd (cs := #[.int .i64 0, .int .i64 0, .int .i64 0, .int .i64 0]) (t := 41) ?hr ?_; (case hd => rfl); (case hg => rfl); (case hr => first | (go_simp; done) | (go_simp; rfl)); intro gb65003 hg w4 hbox hb; have n0_ := Aside0.mk (blk_below (g := gb65001) (o := .cells #[.int .i64 a0_0, .int .i64 a0_1, .int .i64 a0_2, .int .i64 a0_3] 55 (0, 0)) (by (with_reducible repeat (first | refine blk_drewN ?_ _ | refine blk_drew ?_ | refine blk_alloc ?_ _)); exact BK65001.out) hb); have n1_ := Aside0.mk (blk_below (g := gb65002) (o := .cells #[.int .i64 0, .int .i64 0, .int .i64 0, .int .i64 0] 41 (0, 0)) (by (with_reducible repeat (first | refine blk_drewN ?_ _ | refine blk_drew ?_ | refine blk_alloc ?_ _)); exact BK65002.out) hb); have n2_ := Aside0.mk (below_step (by repeat (first | (with_reducible first | exact HB.out | apply below_alloc | apply pw_below_drewN | apply below_drew1 | refine below_set ?_ GE65001.out | refine below_set ?_ GE65002.out) | exact HB.out)) hb); have n3_ := Aside0.mk (hbox); have n4_ := Aside0.mk ((by rw [hg]; exact (below_size (by repeat (first | (with_reducible first | exact HB.out | apply below_alloc | apply pw_below_drewN | apply below_drew1 | refine below_set ?_ GE65001.out | refine below_set ?_ GE65002.out) | exact HB.out))) : w.heap.size ≤ gb65003)); have n5_ := Aside0.mk ((by rw [hg]; exact (below_size (by repeat (first | (with_reducible first | exact HB.out | apply below_alloc | apply pw_below_drewN | apply below_drew1 | refine below_set ?_ GE65001.out | refine below_set ?_ GE65002.out) | exact HB.out))) : w.heap.size ≤ gb65003)); have n6_ := Aside0.mk ((by rw [hg]; exact Nat.ne_of_lt (blk_lt (g := gb65001) (o := .cells #[.int .i64 a0_0, .int .i64 a0_1, .int .i64 a0_2, .int .i64 a0_3] 55 (0, 0)) (by (with_reducible repeat (first | refine blk_drewN ?_ _ | refine blk_drew ?_ | refine blk_alloc ?_ _)); exact BK65001.out)) : gb65001 ≠ gb65003)); have n7_ := Aside0.mk ((by rw [hg]; exact Nat.ne_of_gt (blk_lt (g := gb65001) (o := .cells #[.int .i64 a0_0, .int .i64 a0_1, .int .i64 a0_2, .int .i64 a0_3] 55 (0, 0)) (by (with_reducible repeat (first | refine blk_drewN ?_ _ | refine blk_drew ?_ | refine blk_alloc ?_ _)); exact BK65001.out)) : gb65003 ≠ gb65001)); have n8_ := Aside0.mk ((by rw [hg]; exact Nat.ne_of_lt (blk_lt (g := gb65002) (o := .cells #[.int .i64 0, .int .i64 0, .int .i64 0, .int .i64 0] 41 (0, 0)) (by (with_reducible repeat (first | refine blk_drewN ?_ _ | refine blk_drew ?_ | refine blk_alloc ?_ _)); exact BK65002.out)) : gb65002 ≠ gb65003)); have n9_ := Aside0.mk ((by rw [hg]; exact Nat.ne_of_gt (blk_lt (g := gb65002) (o := .cells #[.int .i64 0, .int .i64 0, .int .i64 0, .int .i64 0] 41 (0, 0)) (by (with_reducible repeat (first | refine blk_drewN ?_ _ | refine blk_drew ?_ | refine blk_alloc ?_ _)); exact BK65002.out)) : gb65003 ≠ gb65002)); clear BK65001; clear BK65002; clear HB; have BK65001 := n0_; have BK65002 := n1_; have HB := n2_; have BK65003 := n3_; have GW65003 := n4_; have GE65003 := n5_; have NB65001_65003 := n6_; have NB65003_65001 := n7_; have NB65002_65003 := n8_; have NB65003_65002 := n9_; clear n0_ n1_ n2_ n3_ n4_ n5_ n6_ n7_ n8_ n9_; clear hb hbox hg; have hnb5 := NB65001_65002.out; have hnc5 := NB65002_65001.out; have hnb6 := NB65001_65003.out; have hnc6 := NB65003_65001.out; have hcz7_0 : w4.cell? ⟨gb65001, 0, none⟩ = some (.int .i64 a0_0) := (blk_cell BK65001.out 0).trans rfl; have hcz7_1 : w4.cell? ⟨gb65001, 1, none⟩ = some (.int .i64 a0_1) := (blk_cell BK65001.out 1).trans rfl; have hcz7_2 : w4.cell? ⟨gb65001, 2, none⟩ = some (.int .i64 a0_2) := (blk_cell BK65001.out 2).trans rfl; have hcz7_3 : w4.cell? ⟨gb65001, 3, none⟩ = some (.int .i64 a0_3) := (blk_cell BK65001.out 3).trans rfl; have hfz7_0 := blk_frozen BK65001.out 0; have hfz7_1 := blk_frozen BK65001.out 1; have hfz7_2 := blk_frozen BK65001.out 2; have hfz7_3 := blk_frozen BK65001.out 3; have hnb8 := NB65003_65002.out; have hnc8 := NB65002_65003.out; have hcz9_0 : w4.cell? ⟨gb65003, 0, none⟩ = some (.int .i64 0) := (blk_cell BK65003.out 0).trans rfl; have hcz9_1 : w4.cell? ⟨gb65003, 1, none⟩ = some (.int .i64 0) := (blk_cell BK65003.out 1).trans rfl; have hcz9_2 : w4.cell? ⟨gb65003, 2, none⟩ = some (.int .i64 0) := (blk_cell BK65003.out 2).trans rfl; have hcz9_3 : w4.cell? ⟨gb65003, 3, none⟩ = some (.int .i64 0) := (blk_cell BK65003.out 3).trans rfl; have hfz9_0 := blk_frozen BK65003.out 0; have hfz9_1 := blk_frozen BK65003.out 1; have hfz9_2 := blk_frozen BK65003.out 2; have hfz9_3 := blk_frozen BK65003.out 3; have hcz10_0 : w4.cell? ⟨gb65002, 0, none⟩ = some (.int .i64 0) := (blk_cell BK65002.out 0).trans rfl; have hcz10_1 : w4.cell? ⟨gb65002, 1, none⟩ = some (.int .i64 0) := (blk_cell BK65002.out 1).trans rfl; have hcz10_2 : w4.cell? ⟨gb65002, 2, none⟩ = some (.int .i64 0) := (blk_cell BK65002.out 2).trans rfl; have hcz10_3 : w4.cell? ⟨gb65002, 3, none⟩ = some (.int .i64 0) := (blk_cell BK65002.out 3).trans rfl; have hfz10_0 := blk_frozen BK65002.out 0; have hfz10_1 := blk_frozen BK65002.out 1; have hfz10_2 := blk_frozen BK65002.out 2; have hfz10_3 := blk_frozen BK65002.out 3))
  refine bodyPost_ret (results_cell_row rfl _ _ gb65002 41 #[.int .i64 a0_0, .int .i64 a0_1, .int .i64 a0_2, .int .i64 a0_3] (0, 0) _ rfl (by (with_reducible repeat (first | refine blk_drewN ?_ _ | refine blk_drew ?_ | refine blk_alloc ?_ _)); refine blk_put (cs := #[.int .i64 a0_0, .int .i64 a0_1, .int .i64 a0_2, .int .i64 0]) ?_ 3 _ rfl; (with_reducible repeat (first | refine blk_drewN ?_ _ | refine blk_drew ?_ | refine blk_alloc ?_ _)); refine blk_put (cs := #[.int .i64 a0_0, .int .i64 a0_1, .int .i64 0, .int .i64 0]) ?_ 2 _ rfl; (with_reducible repeat (first | refine blk_drewN ?_ _ | refine blk_drew ?_ | refine blk_alloc ?_ _)); refine blk_put (cs := #[.int .i64 a0_0, .int .i64 0, .int .i64 0, .int .i64 0]) ?_ 1 _ rfl; (with_reducible repeat (first | refine blk_drewN ?_ _ | refine blk_drew ?_ | refine blk_alloc ?_ _)); refine blk_put (cs := #[.int .i64 0, .int .i64 0, .int .i64 0, .int .i64 0]) ?_ 0 _ rfl; (with_reducible repeat (first | refine blk_drewN ?_ _ | refine blk_drew ?_ | refine blk_alloc ?_ _)); refine blk_far ?_ NB65002_65003.out _; (with_reducible repeat (first | refine blk_drewN ?_ _ | refine blk_drew ?_ | refine blk_alloc ?_ _)); refine blk_far ?_ NB65002_65003.out _; (with_reducible repeat (first | refine blk_drewN ?_ _ | refine blk_drew ?_ | refine blk_alloc ?_ _)); refine blk_far ?_ NB65002_65003.out _; (with_reducible repeat (first | refine blk_drewN ?_ _ | refine blk_drew ?_ | refine blk_alloc ?_ _)); refine blk_far ?_ NB65002_65003.out _; (with_reducible repeat (first | refine blk_drewN ?_ _ | refine blk_drew ?_ | refine blk_alloc ?_ _)); exact BK65002.out) Try.underlying41 rfl (by kernel_rfl)) rfl ?_
  exact ⟨by first | rfl | (simp [errW_none, errW_some] <;> rfl) | (simp [*, errW_none, errW_some] <;> rfl), by repeat (first | (with_reducible first | exact HB.out | apply below_alloc | apply pw_below_drewN | apply below_drew1 | refine below_set ?_ GE65001.out | refine below_set ?_ GE65002.out | refine below_set ?_ GE65003.out) | exact HB.out)⟩

end Go.Proofs.Ytgccpcnakkioiaa.Q
