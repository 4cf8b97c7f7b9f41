/- A part of the proof that the statement FnDoStepFillSaid holds, under no condition of its own: Filled boxes have one color: the law FnDoStepFill over lists of numbers alone. -/
import Derived.Test.YtgccpcnakkioiaaCFnDoStepFill2
import Derived.Test.YtgccpcnakkioiaaCFnDoStepFill1
/- impl.doStep: the image that a step makes of a valid image. -/
namespace Go.Proofs.Ytgccpcnakkioiaa.Q
open Go.RowKit Go.Proofs.YtgccpcnakkioiaaW.PrintWords Go.Proofs.YtgccpcnakkioiaaW.PrintLast Go.Proofs.YtgccpcnakkioiaaW.PrintMore
open Go.Proofs.YtgccpcnakkioiaaW.PrintWords.Aside0 (mk)
attribute [local go_sem] max2_int min2_int max_two min_two max_three min_three max_four min_four
set_option linter.unusedVariables false
set_option linter.unusedSimpArgs false
open Go.Proofs.Ytgccpcnakkioiaa.Pure

def doStepV (a b p : Int) (d : List Int) (kind x y wd hg : Int) (pix : List Int) : Int × Int × Int × List Int × Bool :=
 if kind = 0 then (a, b, p, imgD (mirPx a p d) a.toNat b.toNat, true)
 else if kind = 1 then (b, a, p, imgD (turnPx a b p d) b.toNat a.toNat, true)
 else if kind = 2 then (a, b, p, invD d, true)
 else if kind = 3 then (if boxOn a b x y wd hg = true then (wd, hg, p, imgD (cropPx a p d x.toNat y.toNat) wd.toNat hg.toNat, true) else (0, 0, 0, [], false))
 else if kind = 4 then (if boxOn a b x y wd hg = true ∧ (pix.length : Int) = p ∧ pix.all byteI = true then (a, b, p, imgD (fillPx a p d x.toNat y.toNat wd.toNat hg.toNat pix) a.toNat b.toNat, true) else (0, 0, 0, [], false))
 else (0, 0, 0, [], false)
def impl_doStep.f (a b p : Int) (d : List Int) (kind x y wd hg : Int) (pix : List Int) : Option (Int × Int × Int × List Int × Bool) := if validI a b p d = true then some (doStepV a b p d kind x y wd hg pix) else none
set_option maxHeartbeats 4000000 in
set_option maxRecDepth 100000 in
theorem step0 (a b p : Int) (A : Option Addr) (c : Nat) (d : List Int) (x y wd hg : Int) (A3 : Option Addr) (c3 : Nat) (pix : List Int) (w : World) (hr0_3 : Kd.C (Kd.int .i64) w A d.length d) (hc0_3 : d.length ≤ c) (hr3 : Kd.C (Kd.int .i64) w A3 pix.length pix) (hc3 : pix.length ≤ c3) (hv1 : validI a b p d = true) :
  Calls Try.prog 45 #[.agg #[.int .i64 a, .int .i64 b, .int .i64 p, .slice A d.length c], .agg #[.int .i64 0, .int .i64 x, .int .i64 y, .int .i64 wd, .int .i64 hg, .slice A3 pix.length c3]] w fun e w' => ∃ v3_ : Value, e = .returned (.tuple #[.agg #[.int .i64 a, .int .i64 b, .int .i64 p, v3_], .bool true]) ∧ Kd.R (Kd.int .i64) 3 w' w.heap.size (fun _ => True) v3_ (imgD (mirPx a p d) a.toNat b.toNat) ∧ Below w.heap.size w w' := by
 have HC := mk hc0_3
 have HR := mk hr0_3
 have HB0 := mk (Below.refl w.heap.size w)
 have hu := Try.underlying28
 clear hr0_3 hc0_3 hr3 hc3
 have E1 := mk (show impl_MirrorImage.f a b p d = some (a, b, p, imgD (mirPx a p d) a.toNat b.toNat) from by unfold impl_MirrorImage.f; rw [hv1, if_pos rfl])
 clear hv1
 go_enter Try.func45, Try.ntmps45
 go_wp2_with (first | ((with_reducible refine gate_dst (N := 2) rfl ?_); refine box_event (by rfl) (N := 2) (by rfl) (cs := #[.int .i64 a, .int .i64 b, .int .i64 p, .slice A d.length c]) (t := 28) (by go_simp; done) ?_; intro g1 hg_ w1 hbox hb; have HB1 := mk (below_then HB0.out HB0.out.size hb); have Kg1_1 := mk hbox; clear hbox hb hg_) | ((with_reducible refine gate_dst (N := 3) rfl ?_); refine box_event (by rfl) (N := 3) (by rfl) (cs := #[.int .i64 0, .int .i64 x, .int .i64 y, .int .i64 wd, .int .i64 hg, .slice A3 pix.length c3]) (t := 43) (by go_simp; done) ?_; intro g3 hg_ w2 hbox hb; have HB2 := mk (below_then HB1.out HB1.out.size hb); have Kg1_2 := mk (blk_below Kg1_1.out hb); have Kg3_2 := mk hbox; clear hbox hb hg_) | ((with_reducible refine gate_dst (N := 4) rfl ?_); refine box_event (by rfl) (N := 4) (by rfl) (cs := #[.int .i64 0, .int .i64 0, .int .i64 0, .slice none 0 0]) (t := 28) (by go_simp; done) ?_; intro g2 hg_ w3 hbox hb; have HB3 := mk (below_then HB2.out HB2.out.size hb); have Gg2 := mk (show w.heap.size ≤ g2 from by rw [hg_]; exact HB2.out.size); have Kg1_3 := mk (blk_below Kg1_2.out hb); have Kg3_3 := mk (blk_below Kg3_2.out hb); have Kg2_3 := mk hbox; have fg1_0 : w3.cell? ⟨g1, 0, none⟩ = some (.int .i64 a) := (blk_cell Kg1_3.out 0).trans rfl; have fg1_1 : w3.cell? ⟨g1, 1, none⟩ = some (.int .i64 b) := (blk_cell Kg1_3.out 1).trans rfl; have fg1_2 : w3.cell? ⟨g1, 2, none⟩ = some (.int .i64 p) := (blk_cell Kg1_3.out 2).trans rfl; have fg1_3 : w3.cell? ⟨g1, 3, none⟩ = some (.slice A d.length c) := (blk_cell Kg1_3.out 3).trans rfl; have fg3_0 : w3.cell? ⟨g3, 0, none⟩ = some (.int .i64 0) := (blk_cell Kg3_3.out 0).trans rfl; clear hbox hb hg_) | (go_at_call 25; (with_reducible refine (impl_MirrorImage.calls a b p A c d a b p (imgD (mirPx a p d) a.toNat b.toNat) w3 (Kd.C_below HR.out HB3.out) HC.out E1.out).mono ?_); rintro e w4 ⟨v4, rfl, hr4, hb_⟩; have HB4 := mk (below_then HB3.out HB3.out.size hb_); have Kg2_4 := mk (blk_below Kg2_3.out hb_); have eg2_4_0 : w4.cell? ⟨g2, 0, none⟩ = some (.int .i64 0) := (blk_cell Kg2_4.out 0).trans rfl; have eg2_4_1 : w4.cell? ⟨g2, 1, none⟩ = some (.int .i64 0) := (blk_cell Kg2_4.out 1).trans rfl; have eg2_4_2 : w4.cell? ⟨g2, 2, none⟩ = some (.int .i64 0) := (blk_cell Kg2_4.out 2).trans rfl; have eg2_4_3 : w4.cell? ⟨g2, 3, none⟩ = some (.slice none 0 0) := (blk_cell Kg2_4.out 3).trans rfl; have yg2_4_0 := blk_frozen Kg2_4.out 0; have yg2_4_1 := blk_frozen Kg2_4.out 1; have yg2_4_2 := blk_frozen Kg2_4.out 2; have yg2_4_3 := blk_frozen Kg2_4.out 3; have HR4 := mk (Kd.R_lower hr4 HB3.out.size); obtain ⟨A4, c4, ev4⟩ := Kd.R_slice HR4.out; subst ev4; clear hr4 hb_))
 have G2 := Gg2.out
 have RR := Kd.R_types HR4.out Kg2_4.out (by decide)
 refine bodyPost_ret (results_ct rfl _ _ g2 28 #[.int .i64 a, .int .i64 b, .int .i64 p, .slice A4 (imgD (mirPx a p d) a.toNat b.toNat).length c4] (0, 0) _ rfl (by
  refine blk_put (cs := #[.int .i64 a, .int .i64 b, .int .i64 p, .slice none 0 0]) ?_ 3 _ rfl
  refine blk_put (cs := #[.int .i64 a, .int .i64 b, .int .i64 0, .slice none 0 0]) ?_ 2 _ rfl
  refine blk_put (cs := #[.int .i64 a, .int .i64 0, .int .i64 0, .slice none 0 0]) ?_ 1 _ rfl
  refine blk_put (cs := #[.int .i64 0, .int .i64 0, .int .i64 0, .slice none 0 0]) ?_ 0 _ rfl
  exact Kg2_4.out
  ) hu rfl (by kernel_rfl)) rfl ?_
 exact ⟨_, rfl, Kd.R_mono (Kd.R_far (Kd.R_far (Kd.R_far (Kd.R_far RR (fun k hk => hk.2) _) (fun k hk => hk.2) _) (fun k hk => hk.2) _) (fun k hk => hk.2) _) (fun _ _ => trivial), below_set (below_set (below_set (below_set HB4.out (by omega)) (by omega)) (by omega)) (by omega)⟩
set_option maxHeartbeats 4000000 in
set_option maxRecDepth 100000 in
theorem step1 (a b p : Int) (A : Option Addr) (c : Nat) (d : List Int) (x y wd hg : Int) (A3 : Option Addr) (c3 : Nat) (pix : List Int) (w : World) (hr0_3 : Kd.C (Kd.int .i64) w A d.length d) (hc0_3 : d.length ≤ c) (hr3 : Kd.C (Kd.int .i64) w A3 pix.length pix) (hc3 : pix.length ≤ c3) (hv1 : validI a b p d = true) :
  Calls Try.prog 45 #[.agg #[.int .i64 a, .int .i64 b, .int .i64 p, .slice A d.length c], .agg #[.int .i64 1, .int .i64 x, .int .i64 y, .int .i64 wd, .int .i64 hg, .slice A3 pix.length c3]] w fun e w' => ∃ v3_ : Value, e = .returned (.tuple #[.agg #[.int .i64 b, .int .i64 a, .int .i64 p, v3_], .bool true]) ∧ Kd.R (Kd.int .i64) 3 w' w.heap.size (fun _ => True) v3_ (imgD (turnPx a b p d) b.toNat a.toNat) ∧ Below w.heap.size w w' := by
 have HC := mk hc0_3
 have HR := mk hr0_3
 have HB0 := mk (Below.refl w.heap.size w)
 have hu := Try.underlying28
 clear hr0_3 hc0_3 hr3 hc3
 have E1 := mk (show impl_TurnImage.f a b p d 1 = some (b, a, p, imgD (turnPx a b p d) b.toNat a.toNat) from by unfold impl_TurnImage.f; rw [if_pos rfl, hv1, if_pos rfl])
 clear hv1
 go_enter Try.func45, Try.ntmps45
 go_wp2_with (first | ((with_reducible refine gate_dst (N := 2) rfl ?_); refine box_event (by rfl) (N := 2) (by rfl) (cs := #[.int .i64 a, .int .i64 b, .int .i64 p, .slice A d.length c]) (t := 28) (by go_simp; done) ?_; intro g1 hg_ w1 hbox hb; have HB1 := mk (below_then HB0.out HB0.out.size hb); have Kg1_1 := mk hbox; clear hbox hb hg_) | ((with_reducible refine gate_dst (N := 3) rfl ?_); refine box_event (by rfl) (N := 3) (by rfl) (cs := #[.int .i64 1, .int .i64 x, .int .i64 y, .int .i64 wd, .int .i64 hg, .slice A3 pix.length c3]) (t := 43) (by go_simp; done) ?_; intro g3 hg_ w2 hbox hb; have HB2 := mk (below_then HB1.out HB1.out.size hb); have Kg1_2 := mk (blk_below Kg1_1.out hb); have Kg3_2 := mk hbox; clear hbox hb hg_) | ((with_reducible refine gate_dst (N := 4) rfl ?_); refine box_event (by rfl) (N := 4) (by rfl) (cs := #[.int .i64 0, .int .i64 0, .int .i64 0, .slice none 0 0]) (t := 28) (by go_simp; done) ?_; intro g2 hg_ w3 hbox hb; have HB3 := mk (below_then HB2.out HB2.out.size hb); have Gg2 := mk (show w.heap.size ≤ g2 from by rw [hg_]; exact HB2.out.size); have Kg1_3 := mk (blk_below Kg1_2.out hb); have Kg3_3 := mk (blk_below Kg3_2.out hb); have Kg2_3 := mk hbox; have fg1_0 : w3.cell? ⟨g1, 0, none⟩ = some (.int .i64 a) := (blk_cell Kg1_3.out 0).trans rfl; have fg1_1 : w3.cell? ⟨g1, 1, none⟩ = some (.int .i64 b) := (blk_cell Kg1_3.out 1).trans rfl; have fg1_2 : w3.cell? ⟨g1, 2, none⟩ = some (.int .i64 p) := (blk_cell Kg1_3.out 2).trans rfl; have fg1_3 : w3.cell? ⟨g1, 3, none⟩ = some (.slice A d.length c) := (blk_cell Kg1_3.out 3).trans rfl; have fg3_0 : w3.cell? ⟨g3, 0, none⟩ = some (.int .i64 1) := (blk_cell Kg3_3.out 0).trans rfl; clear hbox hb hg_) | (go_at_call 26; (with_reducible refine (impl_TurnImage.calls a b p A c d 1 b a p (imgD (turnPx a b p d) b.toNat a.toNat) w3 (Kd.C_below HR.out HB3.out) HC.out E1.out).mono ?_); rintro e w4 ⟨v4, rfl, hr4, hb_⟩; have HB4 := mk (below_then HB3.out HB3.out.size hb_); have Kg2_4 := mk (blk_below Kg2_3.out hb_); have eg2_4_0 : w4.cell? ⟨g2, 0, none⟩ = some (.int .i64 0) := (blk_cell Kg2_4.out 0).trans rfl; have eg2_4_1 : w4.cell? ⟨g2, 1, none⟩ = some (.int .i64 0) := (blk_cell Kg2_4.out 1).trans rfl; have eg2_4_2 : w4.cell? ⟨g2, 2, none⟩ = some (.int .i64 0) := (blk_cell Kg2_4.out 2).trans rfl; have eg2_4_3 : w4.cell? ⟨g2, 3, none⟩ = some (.slice none 0 0) := (blk_cell Kg2_4.out 3).trans rfl; have yg2_4_0 := blk_frozen Kg2_4.out 0; have yg2_4_1 := blk_frozen Kg2_4.out 1; have yg2_4_2 := blk_frozen Kg2_4.out 2; have yg2_4_3 := blk_frozen Kg2_4.out 3; have HR4 := mk (Kd.R_lower hr4 HB3.out.size); obtain ⟨A4, c4, ev4⟩ := Kd.R_slice HR4.out; subst ev4; clear hr4 hb_))
 have G2 := Gg2.out
 have RR := Kd.R_types HR4.out Kg2_4.out (by decide)
 refine bodyPost_ret (results_ct rfl _ _ g2 28 #[.int .i64 b, .int .i64 a, .int .i64 p, .slice A4 (imgD (turnPx a b p d) b.toNat a.toNat).length c4] (0, 0) _ rfl (by
  refine blk_put (cs := #[.int .i64 b, .int .i64 a, .int .i64 p, .slice none 0 0]) ?_ 3 _ rfl
  refine blk_put (cs := #[.int .i64 b, .int .i64 a, .int .i64 0, .slice none 0 0]) ?_ 2 _ rfl
  refine blk_put (cs := #[.int .i64 b, .int .i64 0, .int .i64 0, .slice none 0 0]) ?_ 1 _ rfl
  refine blk_put (cs := #[.int .i64 0, .int .i64 0, .int .i64 0, .slice none 0 0]) ?_ 0 _ rfl
  exact Kg2_4.out
  ) hu rfl (by kernel_rfl)) rfl ?_
 exact ⟨_, rfl, Kd.R_mono (Kd.R_far (Kd.R_far (Kd.R_far (Kd.R_far RR (fun k hk => hk.2) _) (fun k hk => hk.2) _) (fun k hk => hk.2) _) (fun k hk => hk.2) _) (fun _ _ => trivial), below_set (below_set (below_set (below_set HB4.out (by omega)) (by omega)) (by omega)) (by omega)⟩
set_option maxHeartbeats 4000000 in
set_option maxRecDepth 100000 in
theorem step2 (a b p : Int) (A : Option Addr) (c : Nat) (d : List Int) (x y wd hg : Int) (A3 : Option Addr) (c3 : Nat) (pix : List Int) (w : World) (hr0_3 : Kd.C (Kd.int .i64) w A d.length d) (hc0_3 : d.length ≤ c) (hr3 : Kd.C (Kd.int .i64) w A3 pix.length pix) (hc3 : pix.length ≤ c3) (hv1 : validI a b p d = true) :
  Calls Try.prog 45 #[.agg #[.int .i64 a, .int .i64 b, .int .i64 p, .slice A d.length c], .agg #[.int .i64 2, .int .i64 x, .int .i64 y, .int .i64 wd, .int .i64 hg, .slice A3 pix.length c3]] w fun e w' => ∃ v3_ : Value, e = .returned (.tuple #[.agg #[.int .i64 a, .int .i64 b, .int .i64 p, v3_], .bool true]) ∧ Kd.R (Kd.int .i64) 3 w' w.heap.size (fun _ => True) v3_ (invD d) ∧ Below w.heap.size w w' := by
 have HC := mk hc0_3
 have HR := mk hr0_3
 have HB0 := mk (Below.refl w.heap.size w)
 have hu := Try.underlying28
 clear hr0_3 hc0_3 hr3 hc3
 have E1 := mk (show impl_InvertImage.f a b p d = some (a, b, p, invD d) from by unfold impl_InvertImage.f; rw [hv1, if_pos rfl])
 clear hv1
 go_enter Try.func45, Try.ntmps45
 go_wp2_with (first | ((with_reducible refine gate_dst (N := 2) rfl ?_); refine box_event (by rfl) (N := 2) (by rfl) (cs := #[.int .i64 a, .int .i64 b, .int .i64 p, .slice A d.length c]) (t := 28) (by go_simp; done) ?_; intro g1 hg_ w1 hbox hb; have HB1 := mk (below_then HB0.out HB0.out.size hb); have Kg1_1 := mk hbox; clear hbox hb hg_) | ((with_reducible refine gate_dst (N := 3) rfl ?_); refine box_event (by rfl) (N := 3) (by rfl) (cs := #[.int .i64 2, .int .i64 x, .int .i64 y, .int .i64 wd, .int .i64 hg, .slice A3 pix.length c3]) (t := 43) (by go_simp; done) ?_; intro g3 hg_ w2 hbox hb; have HB2 := mk (below_then HB1.out HB1.out.size hb); have Kg1_2 := mk (blk_below Kg1_1.out hb); have Kg3_2 := mk hbox; clear hbox hb hg_) | ((with_reducible refine gate_dst (N := 4) rfl ?_); refine box_event (by rfl) (N := 4) (by rfl) (cs := #[.int .i64 0, .int .i64 0, .int .i64 0, .slice none 0 0]) (t := 28) (by go_simp; done) ?_; intro g2 hg_ w3 hbox hb; have HB3 := mk (below_then HB2.out HB2.out.size hb); have Gg2 := mk (show w.heap.size ≤ g2 from by rw [hg_]; exact HB2.out.size); have Kg1_3 := mk (blk_below Kg1_2.out hb); have Kg3_3 := mk (blk_below Kg3_2.out hb); have Kg2_3 := mk hbox; have fg1_0 : w3.cell? ⟨g1, 0, none⟩ = some (.int .i64 a) := (blk_cell Kg1_3.out 0).trans rfl; have fg1_1 : w3.cell? ⟨g1, 1, none⟩ = some (.int .i64 b) := (blk_cell Kg1_3.out 1).trans rfl; have fg1_2 : w3.cell? ⟨g1, 2, none⟩ = some (.int .i64 p) := (blk_cell Kg1_3.out 2).trans rfl; have fg1_3 : w3.cell? ⟨g1, 3, none⟩ = some (.slice A d.length c) := (blk_cell Kg1_3.out 3).trans rfl; have fg3_0 : w3.cell? ⟨g3, 0, none⟩ = some (.int .i64 2) := (blk_cell Kg3_3.out 0).trans rfl; clear hbox hb hg_) | (go_at_call 27; (with_reducible refine (impl_InvertImage.calls a b p A c d a b p (invD d) w3 (Kd.C_below HR.out HB3.out) HC.out E1.out).mono ?_); rintro e w4 ⟨v4, rfl, hr4, hb_⟩; have HB4 := mk (below_then HB3.out HB3.out.size hb_); have Kg2_4 := mk (blk_below Kg2_3.out hb_); have eg2_4_0 : w4.cell? ⟨g2, 0, none⟩ = some (.int .i64 0) := (blk_cell Kg2_4.out 0).trans rfl; have eg2_4_1 : w4.cell? ⟨g2, 1, none⟩ = some (.int .i64 0) := (blk_cell Kg2_4.out 1).trans rfl; have eg2_4_2 : w4.cell? ⟨g2, 2, none⟩ = some (.int .i64 0) := (blk_cell Kg2_4.out 2).trans rfl; have eg2_4_3 : w4.cell? ⟨g2, 3, none⟩ = some (.slice none 0 0) := (blk_cell Kg2_4.out 3).trans rfl; have yg2_4_0 := blk_frozen Kg2_4.out 0; have yg2_4_1 := blk_frozen Kg2_4.out 1; have yg2_4_2 := blk_frozen Kg2_4.out 2; have yg2_4_3 := blk_frozen Kg2_4.out 3; have HR4 := mk (Kd.R_lower hr4 HB3.out.size); obtain ⟨A4, c4, ev4⟩ := Kd.R_slice HR4.out; subst ev4; clear hr4 hb_))
 have G2 := Gg2.out
 have RR := Kd.R_types HR4.out Kg2_4.out (by decide)
 refine bodyPost_ret (results_ct rfl _ _ g2 28 #[.int .i64 a, .int .i64 b, .int .i64 p, .slice A4 (invD d).length c4] (0, 0) _ rfl (by
  refine blk_put (cs := #[.int .i64 a, .int .i64 b, .int .i64 p, .slice none 0 0]) ?_ 3 _ rfl
  refine blk_put (cs := #[.int .i64 a, .int .i64 b, .int .i64 0, .slice none 0 0]) ?_ 2 _ rfl
  refine blk_put (cs := #[.int .i64 a, .int .i64 0, .int .i64 0, .slice none 0 0]) ?_ 1 _ rfl
  refine blk_put (cs := #[.int .i64 0, .int .i64 0, .int .i64 0, .slice none 0 0]) ?_ 0 _ rfl
  exact Kg2_4.out
  ) hu rfl (by kernel_rfl)) rfl ?_
 exact ⟨_, rfl, Kd.R_mono (Kd.R_far (Kd.R_far (Kd.R_far (Kd.R_far RR (fun k hk => hk.2) _) (fun k hk => hk.2) _) (fun k hk => hk.2) _) (fun k hk => hk.2) _) (fun _ _ => trivial), below_set (below_set (below_set (below_set HB4.out (by omega)) (by omega)) (by omega)) (by omega)⟩
set_option maxHeartbeats 4000000 in
set_option maxRecDepth 100000 in
theorem step3_yes (a b p : Int) (A : Option Addr) (c : Nat) (d : List Int) (x y wd hg : Int) (A3 : Option Addr) (c3 : Nat) (pix : List Int) (w : World) (hr0_3 : Kd.C (Kd.int .i64) w A d.length d) (hc0_3 : d.length ≤ c) (hr3 : Kd.C (Kd.int .i64) w A3 pix.length pix) (hc3 : pix.length ≤ c3) (hv1 : validI a b p d = true) (hv2 : boxOn a b x y wd hg = true) :
  Calls Try.prog 45 #[.agg #[.int .i64 a, .int .i64 b, .int .i64 p, .slice A d.length c], .agg #[.int .i64 3, .int .i64 x, .int .i64 y, .int .i64 wd, .int .i64 hg, .slice A3 pix.length c3]] w fun e w' => ∃ v3_ : Value, e = .returned (.tuple #[.agg #[.int .i64 wd, .int .i64 hg, .int .i64 p, v3_], .bool true]) ∧ Kd.R (Kd.int .i64) 3 w' w.heap.size (fun _ => True) v3_ (imgD (cropPx a p d x.toNat y.toNat) wd.toNat hg.toNat) ∧ Below w.heap.size w w' := by
 have HC := mk hc0_3
 have HR := mk hr0_3
 have HB0 := mk (Below.refl w.heap.size w)
 have hu := Try.underlying28
 clear hr0_3 hc0_3 hr3 hc3
 have E1 := mk (show impl_CropImage.f a b p d x y wd hg = some (wd, hg, p, imgD (cropPx a p d x.toNat y.toNat) wd.toNat hg.toNat, true) from by unfold impl_CropImage.f; rw [hv1, hv2, if_pos ⟨rfl, rfl⟩])
 clear hv1 hv2
 go_enter Try.func45, Try.ntmps45
 go_wp2_with (first | ((with_reducible refine gate_dst (N := 2) rfl ?_); refine box_event (by rfl) (N := 2) (by rfl) (cs := #[.int .i64 a, .int .i64 b, .int .i64 p, .slice A d.length c]) (t := 28) (by go_simp; done) ?_; intro g1 hg_ w1 hbox hb; have HB1 := mk (below_then HB0.out HB0.out.size hb); have Kg1_1 := mk hbox; clear hbox hb hg_) | ((with_reducible refine gate_dst (N := 3) rfl ?_); refine box_event (by rfl) (N := 3) (by rfl) (cs := #[.int .i64 3, .int .i64 x, .int .i64 y, .int .i64 wd, .int .i64 hg, .slice A3 pix.length c3]) (t := 43) (by go_simp; done) ?_; intro g3 hg_ w2 hbox hb; have HB2 := mk (below_then HB1.out HB1.out.size hb); have Kg1_2 := mk (blk_below Kg1_1.out hb); have Kg3_2 := mk hbox; clear hbox hb hg_) | ((with_reducible refine gate_dst (N := 4) rfl ?_); refine box_event (by rfl) (N := 4) (by rfl) (cs := #[.int .i64 0, .int .i64 0, .int .i64 0, .slice none 0 0]) (t := 28) (by go_simp; done) ?_; intro g2 hg_ w3 hbox hb; have HB3 := mk (below_then HB2.out HB2.out.size hb); have Gg2 := mk (show w.heap.size ≤ g2 from by rw [hg_]; exact HB2.out.size); have Kg1_3 := mk (blk_below Kg1_2.out hb); have Kg3_3 := mk (blk_below Kg3_2.out hb); have Kg2_3 := mk hbox; have fg1_0 : w3.cell? ⟨g1, 0, none⟩ = some (.int .i64 a) := (blk_cell Kg1_3.out 0).trans rfl; have fg1_1 : w3.cell? ⟨g1, 1, none⟩ = some (.int .i64 b) := (blk_cell Kg1_3.out 1).trans rfl; have fg1_2 : w3.cell? ⟨g1, 2, none⟩ = some (.int .i64 p) := (blk_cell Kg1_3.out 2).trans rfl; have fg1_3 : w3.cell? ⟨g1, 3, none⟩ = some (.slice A d.length c) := (blk_cell Kg1_3.out 3).trans rfl; have fg3_0 : w3.cell? ⟨g3, 0, none⟩ = some (.int .i64 3) := (blk_cell Kg3_3.out 0).trans rfl; have fg3_1 : w3.cell? ⟨g3, 1, none⟩ = some (.int .i64 x) := (blk_cell Kg3_3.out 1).trans rfl; have fg3_2 : w3.cell? ⟨g3, 2, none⟩ = some (.int .i64 y) := (blk_cell Kg3_3.out 2).trans rfl; have fg3_3 : w3.cell? ⟨g3, 3, none⟩ = some (.int .i64 wd) := (blk_cell Kg3_3.out 3).trans rfl; have fg3_4 : w3.cell? ⟨g3, 4, none⟩ = some (.int .i64 hg) := (blk_cell Kg3_3.out 4).trans rfl; clear hbox hb hg_) | (go_at_call 29; (with_reducible refine (impl_CropImage.calls a b p A c d x y wd hg wd hg p (imgD (cropPx a p d x.toNat y.toNat) wd.toNat hg.toNat) true w3 (Kd.C_below HR.out HB3.out) HC.out E1.out).mono ?_); rintro e w4 ⟨v4, rfl, hr4, hb_⟩; have HB4 := mk (below_then HB3.out HB3.out.size hb_); have Kg2_4 := mk (blk_below Kg2_3.out hb_); have eg2_4_0 : w4.cell? ⟨g2, 0, none⟩ = some (.int .i64 0) := (blk_cell Kg2_4.out 0).trans rfl; have eg2_4_1 : w4.cell? ⟨g2, 1, none⟩ = some (.int .i64 0) := (blk_cell Kg2_4.out 1).trans rfl; have eg2_4_2 : w4.cell? ⟨g2, 2, none⟩ = some (.int .i64 0) := (blk_cell Kg2_4.out 2).trans rfl; have eg2_4_3 : w4.cell? ⟨g2, 3, none⟩ = some (.slice none 0 0) := (blk_cell Kg2_4.out 3).trans rfl; have yg2_4_0 := blk_frozen Kg2_4.out 0; have yg2_4_1 := blk_frozen Kg2_4.out 1; have yg2_4_2 := blk_frozen Kg2_4.out 2; have yg2_4_3 := blk_frozen Kg2_4.out 3; have HR4 := mk (Kd.R_lower hr4 HB3.out.size); obtain ⟨A4, c4, ev4⟩ := Kd.R_slice HR4.out; subst ev4; clear hr4 hb_))
 have G2 := Gg2.out
 have RR := Kd.R_types HR4.out Kg2_4.out (by decide)
 refine bodyPost_ret (results_ct rfl _ _ g2 28 #[.int .i64 wd, .int .i64 hg, .int .i64 p, .slice A4 (imgD (cropPx a p d x.toNat y.toNat) wd.toNat hg.toNat).length c4] (0, 0) _ rfl (by
  refine blk_put (cs := #[.int .i64 wd, .int .i64 hg, .int .i64 p, .slice none 0 0]) ?_ 3 _ rfl
  refine blk_put (cs := #[.int .i64 wd, .int .i64 hg, .int .i64 0, .slice none 0 0]) ?_ 2 _ rfl
  refine blk_put (cs := #[.int .i64 wd, .int .i64 0, .int .i64 0, .slice none 0 0]) ?_ 1 _ rfl
  refine blk_put (cs := #[.int .i64 0, .int .i64 0, .int .i64 0, .slice none 0 0]) ?_ 0 _ rfl
  exact Kg2_4.out
  ) hu rfl (by kernel_rfl)) rfl ?_
 exact ⟨_, rfl, Kd.R_mono (Kd.R_far (Kd.R_far (Kd.R_far (Kd.R_far RR (fun k hk => hk.2) _) (fun k hk => hk.2) _) (fun k hk => hk.2) _) (fun k hk => hk.2) _) (fun _ _ => trivial), below_set (below_set (below_set (below_set HB4.out (by omega)) (by omega)) (by omega)) (by omega)⟩
set_option maxHeartbeats 4000000 in
set_option maxRecDepth 100000 in
theorem step3_no (a b p : Int) (A : Option Addr) (c : Nat) (d : List Int) (x y wd hg : Int) (A3 : Option Addr) (c3 : Nat) (pix : List Int) (w : World) (hr0_3 : Kd.C (Kd.int .i64) w A d.length d) (hc0_3 : d.length ≤ c) (hr3 : Kd.C (Kd.int .i64) w A3 pix.length pix) (hc3 : pix.length ≤ c3) (hv1 : validI a b p d = true) (hv2 : boxOn a b x y wd hg = false) :
  Calls Try.prog 45 #[.agg #[.int .i64 a, .int .i64 b, .int .i64 p, .slice A d.length c], .agg #[.int .i64 3, .int .i64 x, .int .i64 y, .int .i64 wd, .int .i64 hg, .slice A3 pix.length c3]] w fun e w' => ∃ v3_ : Value, e = .returned (.tuple #[.agg #[.int .i64 0, .int .i64 0, .int .i64 0, v3_], .bool false]) ∧ Kd.R (Kd.int .i64) 3 w' w.heap.size (fun _ => True) v3_ [] ∧ Below w.heap.size w w' := by
 have HC := mk hc0_3
 have HR := mk hr0_3
 have HB0 := mk (Below.refl w.heap.size w)
 have hu := Try.underlying28
 clear hr0_3 hc0_3 hr3 hc3
 have E1 := mk (show impl_CropImage.f a b p d x y wd hg = some (0, 0, 0, [], false) from by unfold impl_CropImage.f; rw [hv1, hv2, if_neg (by simp)])
 clear hv1 hv2
 go_enter Try.func45, Try.ntmps45
 go_wp2_with (first | ((with_reducible refine gate_dst (N := 2) rfl ?_); refine box_event (by rfl) (N := 2) (by rfl) (cs := #[.int .i64 a, .int .i64 b, .int .i64 p, .slice A d.length c]) (t := 28) (by go_simp; done) ?_; intro g1 hg_ w1 hbox hb; have HB1 := mk (below_then HB0.out HB0.out.size hb); have Kg1_1 := mk hbox; clear hbox hb hg_) | ((with_reducible refine gate_dst (N := 3) rfl ?_); refine box_event (by rfl) (N := 3) (by rfl) (cs := #[.int .i64 3, .int .i64 x, .int .i64 y, .int .i64 wd, .int .i64 hg, .slice A3 pix.length c3]) (t := 43) (by go_simp; done) ?_; intro g3 hg_ w2 hbox hb; have HB2 := mk (below_then HB1.out HB1.out.size hb); have Kg1_2 := mk (blk_below Kg1_1.out hb); have Kg3_2 := mk hbox; clear hbox hb hg_) | ((with_reducible refine gate_dst (N := 4) rfl ?_); refine box_event (by rfl) (N := 4) (by rfl) (cs := #[.int .i64 0, .int .i64 0, .int .i64 0, .slice none 0 0]) (t := 28) (by go_simp; done) ?_; intro g2 hg_ w3 hbox hb; have HB3 := mk (below_then HB2.out HB2.out.size hb); have Gg2 := mk (show w.heap.size ≤ g2 from by rw [hg_]; exact HB2.out.size); have Kg1_3 := mk (blk_below Kg1_2.out hb); have Kg3_3 := mk (blk_below Kg3_2.out hb); have Kg2_3 := mk hbox; have fg1_0 : w3.cell? ⟨g1, 0, none⟩ = some (.int .i64 a) := (blk_cell Kg1_3.out 0).trans rfl; have fg1_1 : w3.cell? ⟨g1, 1, none⟩ = some (.int .i64 b) := (blk_cell Kg1_3.out 1).trans rfl; have fg1_2 : w3.cell? ⟨g1, 2, none⟩ = some (.int .i64 p) := (blk_cell Kg1_3.out 2).trans rfl; have fg1_3 : w3.cell? ⟨g1, 3, none⟩ = some (.slice A d.length c) := (blk_cell Kg1_3.out 3).trans rfl; have fg3_0 : w3.cell? ⟨g3, 0, none⟩ = some (.int .i64 3) := (blk_cell Kg3_3.out 0).trans rfl; have fg3_1 : w3.cell? ⟨g3, 1, none⟩ = some (.int .i64 x) := (blk_cell Kg3_3.out 1).trans rfl; have fg3_2 : w3.cell? ⟨g3, 2, none⟩ = some (.int .i64 y) := (blk_cell Kg3_3.out 2).trans rfl; have fg3_3 : w3.cell? ⟨g3, 3, none⟩ = some (.int .i64 wd) := (blk_cell Kg3_3.out 3).trans rfl; have fg3_4 : w3.cell? ⟨g3, 4, none⟩ = some (.int .i64 hg) := (blk_cell Kg3_3.out 4).trans rfl; clear hbox hb hg_) | (go_at_call 29; (with_reducible refine (impl_CropImage.calls a b p A c d x y wd hg 0 0 0 [] false w3 (Kd.C_below HR.out HB3.out) HC.out E1.out).mono ?_); rintro e w4 ⟨v4, rfl, hr4, hb_⟩; have HB4 := mk (below_then HB3.out HB3.out.size hb_); have Kg2_4 := mk (blk_below Kg2_3.out hb_); have eg2_4_0 : w4.cell? ⟨g2, 0, none⟩ = some (.int .i64 0) := (blk_cell Kg2_4.out 0).trans rfl; have eg2_4_1 : w4.cell? ⟨g2, 1, none⟩ = some (.int .i64 0) := (blk_cell Kg2_4.out 1).trans rfl; have eg2_4_2 : w4.cell? ⟨g2, 2, none⟩ = some (.int .i64 0) := (blk_cell Kg2_4.out 2).trans rfl; have eg2_4_3 : w4.cell? ⟨g2, 3, none⟩ = some (.slice none 0 0) := (blk_cell Kg2_4.out 3).trans rfl; have yg2_4_0 := blk_frozen Kg2_4.out 0; have yg2_4_1 := blk_frozen Kg2_4.out 1; have yg2_4_2 := blk_frozen Kg2_4.out 2; have yg2_4_3 := blk_frozen Kg2_4.out 3; have HR4 := mk (Kd.R_lower hr4 HB3.out.size); obtain ⟨A4, c4, ev4⟩ := Kd.R_slice HR4.out; subst ev4; clear hr4 hb_))
 have G2 := Gg2.out
 have RR := Kd.R_types HR4.out Kg2_4.out (by decide)
 refine bodyPost_ret (results_ct rfl _ _ g2 28 #[.int .i64 0, .int .i64 0, .int .i64 0, .slice A4 0 c4] (0, 0) _ rfl (by
  refine blk_put (cs := #[.int .i64 0, .int .i64 0, .int .i64 0, .slice none 0 0]) ?_ 3 _ rfl
  refine blk_put (cs := #[.int .i64 0, .int .i64 0, .int .i64 0, .slice none 0 0]) ?_ 2 _ rfl
  refine blk_put (cs := #[.int .i64 0, .int .i64 0, .int .i64 0, .slice none 0 0]) ?_ 1 _ rfl
  refine blk_put (cs := #[.int .i64 0, .int .i64 0, .int .i64 0, .slice none 0 0]) ?_ 0 _ rfl
  exact Kg2_4.out
  ) hu rfl (by kernel_rfl)) rfl ?_
 exact ⟨_, rfl, Kd.R_mono (Kd.R_far (Kd.R_far (Kd.R_far (Kd.R_far RR (fun k hk => hk.2) _) (fun k hk => hk.2) _) (fun k hk => hk.2) _) (fun k hk => hk.2) _) (fun _ _ => trivial), below_set (below_set (below_set (below_set HB4.out (by omega)) (by omega)) (by omega)) (by omega)⟩
set_option maxHeartbeats 4000000 in
set_option maxRecDepth 100000 in
theorem step4_no1 (a b p : Int) (A : Option Addr) (c : Nat) (d : List Int) (x y wd hg : Int) (A3 : Option Addr) (c3 : Nat) (pix : List Int) (w : World) (hr0_3 : Kd.C (Kd.int .i64) w A d.length d) (hc0_3 : d.length ≤ c) (hr3 : Kd.C (Kd.int .i64) w A3 pix.length pix) (hc3 : pix.length ≤ c3) (hv1 : validI a b p d = true) (hv2 : boxOn a b x y wd hg = false) :
  Calls Try.prog 45 #[.agg #[.int .i64 a, .int .i64 b, .int .i64 p, .slice A d.length c], .agg #[.int .i64 4, .int .i64 x, .int .i64 y, .int .i64 wd, .int .i64 hg, .slice A3 pix.length c3]] w fun e w' => ∃ v3_ : Value, e = .returned (.tuple #[.agg #[.int .i64 0, .int .i64 0, .int .i64 0, v3_], .bool false]) ∧ Kd.R (Kd.int .i64) 3 w' w.heap.size (fun _ => True) v3_ [] ∧ Below w.heap.size w w' := by
 have HC := mk hc0_3
 have HR := mk hr0_3
 have HB0 := mk (Below.refl w.heap.size w)
 have hu := Try.underlying28
 clear hr0_3 hc0_3 hr3 hc3
 have E2 := mk (impl_isBoxOn_eq hv1 x y wd hg)
 rw [hv2] at E2
 clear hv1 hv2
 go_enter Try.func45, Try.ntmps45
 go_wp2_with (first | ((with_reducible refine gate_dst (N := 2) rfl ?_); refine box_event (by rfl) (N := 2) (by rfl) (cs := #[.int .i64 a, .int .i64 b, .int .i64 p, .slice A d.length c]) (t := 28) (by go_simp; done) ?_; intro g1 hg_ w1 hbox hb; have HB1 := mk (below_then HB0.out HB0.out.size hb); have Kg1_1 := mk hbox; clear hbox hb hg_) | ((with_reducible refine gate_dst (N := 3) rfl ?_); refine box_event (by rfl) (N := 3) (by rfl) (cs := #[.int .i64 4, .int .i64 x, .int .i64 y, .int .i64 wd, .int .i64 hg, .slice A3 pix.length c3]) (t := 43) (by go_simp; done) ?_; intro g3 hg_ w2 hbox hb; have HB2 := mk (below_then HB1.out HB1.out.size hb); have Kg1_2 := mk (blk_below Kg1_1.out hb); have Kg3_2 := mk hbox; clear hbox hb hg_) | ((with_reducible refine gate_dst (N := 4) rfl ?_); refine box_event (by rfl) (N := 4) (by rfl) (cs := #[.int .i64 0, .int .i64 0, .int .i64 0, .slice none 0 0]) (t := 28) (by go_simp; done) ?_; intro g2 hg_ w3 hbox hb; have HB3 := mk (below_then HB2.out HB2.out.size hb); have Gg2 := mk (show w.heap.size ≤ g2 from by rw [hg_]; exact HB2.out.size); have Kg1_3 := mk (blk_below Kg1_2.out hb); have Kg3_3 := mk (blk_below Kg3_2.out hb); have Kg2_3 := mk hbox; have fg1_0 : w3.cell? ⟨g1, 0, none⟩ = some (.int .i64 a) := (blk_cell Kg1_3.out 0).trans rfl; have fg1_1 : w3.cell? ⟨g1, 1, none⟩ = some (.int .i64 b) := (blk_cell Kg1_3.out 1).trans rfl; have fg1_2 : w3.cell? ⟨g1, 2, none⟩ = some (.int .i64 p) := (blk_cell Kg1_3.out 2).trans rfl; have fg1_3 : w3.cell? ⟨g1, 3, none⟩ = some (.slice A d.length c) := (blk_cell Kg1_3.out 3).trans rfl; have fg3_0 : w3.cell? ⟨g3, 0, none⟩ = some (.int .i64 4) := (blk_cell Kg3_3.out 0).trans rfl; have fg3_1 : w3.cell? ⟨g3, 1, none⟩ = some (.int .i64 x) := (blk_cell Kg3_3.out 1).trans rfl; have fg3_2 : w3.cell? ⟨g3, 2, none⟩ = some (.int .i64 y) := (blk_cell Kg3_3.out 2).trans rfl; have fg3_3 : w3.cell? ⟨g3, 3, none⟩ = some (.int .i64 wd) := (blk_cell Kg3_3.out 3).trans rfl; have fg3_4 : w3.cell? ⟨g3, 4, none⟩ = some (.int .i64 hg) := (blk_cell Kg3_3.out 4).trans rfl; clear hbox hb hg_) | (go_at_call 59; (with_reducible refine (impl_isBoxOn.calls a b p A c d x y wd hg _ w3 (Kd.C_below HR.out HB3.out) HC.out E2.out).mono ?_); rintro e w4 ⟨rfl, hb_⟩; have HB4 := mk (below_then HB3.out HB3.out.size hb_); have Kg2_4 := mk (blk_below Kg2_3.out hb_); have eg2_4_0 : w4.cell? ⟨g2, 0, none⟩ = some (.int .i64 0) := (blk_cell Kg2_4.out 0).trans rfl; have eg2_4_1 : w4.cell? ⟨g2, 1, none⟩ = some (.int .i64 0) := (blk_cell Kg2_4.out 1).trans rfl; have eg2_4_2 : w4.cell? ⟨g2, 2, none⟩ = some (.int .i64 0) := (blk_cell Kg2_4.out 2).trans rfl; have eg2_4_3 : w4.cell? ⟨g2, 3, none⟩ = some (.slice none 0 0) := (blk_cell Kg2_4.out 3).trans rfl; have yg2_4_0 := blk_frozen Kg2_4.out 0; have yg2_4_1 := blk_frozen Kg2_4.out 1; have yg2_4_2 := blk_frozen Kg2_4.out 2; have yg2_4_3 := blk_frozen Kg2_4.out 3; clear hb_))
 refine bodyPost_ret (results_ct rfl _ _ g2 28 #[.int .i64 0, .int .i64 0, .int .i64 0, .slice none 0 0] (0, 0) _ rfl (by
  refine blk_put (cs := #[.int .i64 0, .int .i64 0, .int .i64 0, .slice none 0 0]) ?_ 3 _ rfl
  refine blk_put (cs := #[.int .i64 0, .int .i64 0, .int .i64 0, .slice none 0 0]) ?_ 2 _ rfl
  refine blk_put (cs := #[.int .i64 0, .int .i64 0, .int .i64 0, .slice none 0 0]) ?_ 1 _ rfl
  refine blk_put (cs := #[.int .i64 0, .int .i64 0, .int .i64 0, .slice none 0 0]) ?_ 0 _ rfl
  exact Kg2_4.out
  ) hu rfl (by kernel_rfl)) rfl ?_
 have G2 := Gg2.out
 exact ⟨_, rfl, Kd.R_nil _ _ _ _ _, below_set (below_set (below_set (below_set HB4.out (by omega)) (by omega)) (by omega)) (by omega)⟩
set_option maxHeartbeats 4000000 in
set_option maxRecDepth 100000 in
theorem step4_no2 (a b p : Int) (A : Option Addr) (c : Nat) (d : List Int) (x y wd hg : Int) (A3 : Option Addr) (c3 : Nat) (pix : List Int) (w : World) (hr0_3 : Kd.C (Kd.int .i64) w A d.length d) (hc0_3 : d.length ≤ c) (hr3 : Kd.C (Kd.int .i64) w A3 pix.length pix) (hc3 : pix.length ≤ c3) (hv1 : validI a b p d = true) (hv2 : boxOn a b x y wd hg = true) (hv3 : ¬ (pix.length : Int) = p) :
  Calls Try.prog 45 #[.agg #[.int .i64 a, .int .i64 b, .int .i64 p, .slice A d.length c], .agg #[.int .i64 4, .int .i64 x, .int .i64 y, .int .i64 wd, .int .i64 hg, .slice A3 pix.length c3]] w fun e w' => ∃ v3_ : Value, e = .returned (.tuple #[.agg #[.int .i64 0, .int .i64 0, .int .i64 0, v3_], .bool false]) ∧ Kd.R (Kd.int .i64) 3 w' w.heap.size (fun _ => True) v3_ [] ∧ Below w.heap.size w w' := by
 have HC := mk hc0_3
 have HR := mk hr0_3
 have HB0 := mk (Below.refl w.heap.size w)
 have hu := Try.underlying28
 clear hr0_3 hc0_3 hr3 hc3
 have E2 := mk (impl_isBoxOn_eq hv1 x y wd hg)
 rw [hv2] at E2
 clear hv1 hv2
 go_enter Try.func45, Try.ntmps45
 go_wp2_with (first | ((with_reducible refine gate_dst (N := 2) rfl ?_); refine box_event (by rfl) (N := 2) (by rfl) (cs := #[.int .i64 a, .int .i64 b, .int .i64 p, .slice A d.length c]) (t := 28) (by go_simp; done) ?_; intro g1 hg_ w1 hbox hb; have HB1 := mk (below_then HB0.out HB0.out.size hb); have Kg1_1 := mk hbox; clear hbox hb hg_) | ((with_reducible refine gate_dst (N := 3) rfl ?_); refine box_event (by rfl) (N := 3) (by rfl) (cs := #[.int .i64 4, .int .i64 x, .int .i64 y, .int .i64 wd, .int .i64 hg, .slice A3 pix.length c3]) (t := 43) (by go_simp; done) ?_; intro g3 hg_ w2 hbox hb; have HB2 := mk (below_then HB1.out HB1.out.size hb); have Kg1_2 := mk (blk_below Kg1_1.out hb); have Kg3_2 := mk hbox; clear hbox hb hg_) | ((with_reducible refine gate_dst (N := 4) rfl ?_); refine box_event (by rfl) (N := 4) (by rfl) (cs := #[.int .i64 0, .int .i64 0, .int .i64 0, .slice none 0 0]) (t := 28) (by go_simp; done) ?_; intro g2 hg_ w3 hbox hb; have HB3 := mk (below_then HB2.out HB2.out.size hb); have Gg2 := mk (show w.heap.size ≤ g2 from by rw [hg_]; exact HB2.out.size); have Kg1_3 := mk (blk_below Kg1_2.out hb); have Kg3_3 := mk (blk_below Kg3_2.out hb); have Kg2_3 := mk hbox; have fg1_0 : w3.cell? ⟨g1, 0, none⟩ = some (.int .i64 a) := (blk_cell Kg1_3.out 0).trans rfl; have fg1_1 : w3.cell? ⟨g1, 1, none⟩ = some (.int .i64 b) := (blk_cell Kg1_3.out 1).trans rfl; have fg1_2 : w3.cell? ⟨g1, 2, none⟩ = some (.int .i64 p) := (blk_cell Kg1_3.out 2).trans rfl; have fg1_3 : w3.cell? ⟨g1, 3, none⟩ = some (.slice A d.length c) := (blk_cell Kg1_3.out 3).trans rfl; have fg3_0 : w3.cell? ⟨g3, 0, none⟩ = some (.int .i64 4) := (blk_cell Kg3_3.out 0).trans rfl; have fg3_1 : w3.cell? ⟨g3, 1, none⟩ = some (.int .i64 x) := (blk_cell Kg3_3.out 1).trans rfl; have fg3_2 : w3.cell? ⟨g3, 2, none⟩ = some (.int .i64 y) := (blk_cell Kg3_3.out 2).trans rfl; have fg3_3 : w3.cell? ⟨g3, 3, none⟩ = some (.int .i64 wd) := (blk_cell Kg3_3.out 3).trans rfl; have fg3_4 : w3.cell? ⟨g3, 4, none⟩ = some (.int .i64 hg) := (blk_cell Kg3_3.out 4).trans rfl; clear hbox hb hg_) | (go_at_call 59; (with_reducible refine (impl_isBoxOn.calls a b p A c d x y wd hg _ w3 (Kd.C_below HR.out HB3.out) HC.out E2.out).mono ?_); rintro e w4 ⟨rfl, hb_⟩; have HB4 := mk (below_then HB3.out HB3.out.size hb_); have Kg1_4 := mk (blk_below Kg1_3.out hb_); have eg1_4_2 : w4.cell? ⟨g1, 2, none⟩ = some (.int .i64 p) := (blk_cell Kg1_4.out 2).trans rfl; have Kg3_4 := mk (blk_below Kg3_3.out hb_); have eg3_4_5 : w4.cell? ⟨g3, 5, none⟩ = some (.slice A3 pix.length c3) := (blk_cell Kg3_4.out 5).trans rfl; have Kg2_4 := mk (blk_below Kg2_3.out hb_); have eg2_4_0 : w4.cell? ⟨g2, 0, none⟩ = some (.int .i64 0) := (blk_cell Kg2_4.out 0).trans rfl; have eg2_4_1 : w4.cell? ⟨g2, 1, none⟩ = some (.int .i64 0) := (blk_cell Kg2_4.out 1).trans rfl; have eg2_4_2 : w4.cell? ⟨g2, 2, none⟩ = some (.int .i64 0) := (blk_cell Kg2_4.out 2).trans rfl; have eg2_4_3 : w4.cell? ⟨g2, 3, none⟩ = some (.slice none 0 0) := (blk_cell Kg2_4.out 3).trans rfl; have yg2_4_0 := blk_frozen Kg2_4.out 0; have yg2_4_1 := blk_frozen Kg2_4.out 1; have yg2_4_2 := blk_frozen Kg2_4.out 2; have yg2_4_3 := blk_frozen Kg2_4.out 3; clear hb_))
 refine bodyPost_ret (results_ct rfl _ _ g2 28 #[.int .i64 0, .int .i64 0, .int .i64 0, .slice none 0 0] (0, 0) _ rfl (by
  refine blk_put (cs := #[.int .i64 0, .int .i64 0, .int .i64 0, .slice none 0 0]) ?_ 3 _ rfl
  refine blk_put (cs := #[.int .i64 0, .int .i64 0, .int .i64 0, .slice none 0 0]) ?_ 2 _ rfl
  refine blk_put (cs := #[.int .i64 0, .int .i64 0, .int .i64 0, .slice none 0 0]) ?_ 1 _ rfl
  refine blk_put (cs := #[.int .i64 0, .int .i64 0, .int .i64 0, .slice none 0 0]) ?_ 0 _ rfl
  exact Kg2_4.out
  ) hu rfl (by kernel_rfl)) rfl ?_
 have G2 := Gg2.out
 exact ⟨_, rfl, Kd.R_nil _ _ _ _ _, below_set (below_set (below_set (below_set HB4.out (by omega)) (by omega)) (by omega)) (by omega)⟩
set_option maxHeartbeats 4000000 in
set_option maxRecDepth 100000 in
theorem step4_no3 (a b : Int) (A : Option Addr) (c : Nat) (d : List Int) (x y wd hg : Int) (A3 : Option Addr) (c3 : Nat) (pix : List Int) (w : World) (hr0_3 : Kd.C (Kd.int .i64) w A d.length d) (hc0_3 : d.length ≤ c) (hr3 : Kd.C (Kd.int .i64) w A3 pix.length pix) (hc3 : pix.length ≤ c3) (hv1 : validI a b (pix.length : Int) d = true) (hv2 : boxOn a b x y wd hg = true) (hv4 : pix.all byteI = false) :
  Calls Try.prog 45 #[.agg #[.int .i64 a, .int .i64 b, .int .i64 (pix.length : Int), .slice A d.length c], .agg #[.int .i64 4, .int .i64 x, .int .i64 y, .int .i64 wd, .int .i64 hg, .slice A3 pix.length c3]] w fun e w' => ∃ v3_ : Value, e = .returned (.tuple #[.agg #[.int .i64 0, .int .i64 0, .int .i64 0, v3_], .bool false]) ∧ Kd.R (Kd.int .i64) 3 w' w.heap.size (fun _ => True) v3_ [] ∧ Below w.heap.size w w' := by
 have HC := mk hc0_3
 have HR := mk hr0_3
 have HC3 := mk hc3
 have HR3 := mk hr3
 have HB0 := mk (Below.refl w.heap.size w)
 have hu := Try.underlying28
 clear hr0_3 hc0_3 hr3 hc3
 have E2 := mk (impl_isBoxOn_eq hv1 x y wd hg)
 rw [hv2] at E2
 have E3 := mk (areBytesI_eq pix)
 rw [hv4] at E3
 clear hv1 hv2 hv4
 go_enter Try.func45, Try.ntmps45
 go_wp2_with (first | ((with_reducible refine gate_dst (N := 2) rfl ?_); refine box_event (by rfl) (N := 2) (by rfl) (cs := #[.int .i64 a, .int .i64 b, .int .i64 (pix.length : Int), .slice A d.length c]) (t := 28) (by go_simp; done) ?_; intro g1 hg_ w1 hbox hb; have HB1 := mk (below_then HB0.out HB0.out.size hb); have Kg1_1 := mk hbox; clear hbox hb hg_) | ((with_reducible refine gate_dst (N := 3) rfl ?_); refine box_event (by rfl) (N := 3) (by rfl) (cs := #[.int .i64 4, .int .i64 x, .int .i64 y, .int .i64 wd, .int .i64 hg, .slice A3 pix.length c3]) (t := 43) (by go_simp; done) ?_; intro g3 hg_ w2 hbox hb; have HB2 := mk (below_then HB1.out HB1.out.size hb); have Kg1_2 := mk (blk_below Kg1_1.out hb); have Kg3_2 := mk hbox; clear hbox hb hg_) | ((with_reducible refine gate_dst (N := 4) rfl ?_); refine box_event (by rfl) (N := 4) (by rfl) (cs := #[.int .i64 0, .int .i64 0, .int .i64 0, .slice none 0 0]) (t := 28) (by go_simp; done) ?_; intro g2 hg_ w3 hbox hb; have HB3 := mk (below_then HB2.out HB2.out.size hb); have Gg2 := mk (show w.heap.size ≤ g2 from by rw [hg_]; exact HB2.out.size); have Kg1_3 := mk (blk_below Kg1_2.out hb); have Kg3_3 := mk (blk_below Kg3_2.out hb); have Kg2_3 := mk hbox; have fg1_0 : w3.cell? ⟨g1, 0, none⟩ = some (.int .i64 a) := (blk_cell Kg1_3.out 0).trans rfl; have fg1_1 : w3.cell? ⟨g1, 1, none⟩ = some (.int .i64 b) := (blk_cell Kg1_3.out 1).trans rfl; have fg1_2 : w3.cell? ⟨g1, 2, none⟩ = some (.int .i64 (pix.length : Int)) := (blk_cell Kg1_3.out 2).trans rfl; have fg1_3 : w3.cell? ⟨g1, 3, none⟩ = some (.slice A d.length c) := (blk_cell Kg1_3.out 3).trans rfl; have fg3_0 : w3.cell? ⟨g3, 0, none⟩ = some (.int .i64 4) := (blk_cell Kg3_3.out 0).trans rfl; have fg3_1 : w3.cell? ⟨g3, 1, none⟩ = some (.int .i64 x) := (blk_cell Kg3_3.out 1).trans rfl; have fg3_2 : w3.cell? ⟨g3, 2, none⟩ = some (.int .i64 y) := (blk_cell Kg3_3.out 2).trans rfl; have fg3_3 : w3.cell? ⟨g3, 3, none⟩ = some (.int .i64 wd) := (blk_cell Kg3_3.out 3).trans rfl; have fg3_4 : w3.cell? ⟨g3, 4, none⟩ = some (.int .i64 hg) := (blk_cell Kg3_3.out 4).trans rfl; clear hbox hb hg_) | (go_at_call 59; (with_reducible refine (impl_isBoxOn.calls a b (pix.length : Int) A c d x y wd hg _ w3 (Kd.C_below HR.out HB3.out) HC.out E2.out).mono ?_); rintro e w4 ⟨rfl, hb_⟩; have HB4 := mk (below_then HB3.out HB3.out.size hb_); have Kg1_4 := mk (blk_below Kg1_3.out hb_); have eg1_4_2 : w4.cell? ⟨g1, 2, none⟩ = some (.int .i64 (pix.length : Int)) := (blk_cell Kg1_4.out 2).trans rfl; have Kg3_4 := mk (blk_below Kg3_3.out hb_); have eg3_4_5 : w4.cell? ⟨g3, 5, none⟩ = some (.slice A3 pix.length c3) := (blk_cell Kg3_4.out 5).trans rfl; have Kg2_4 := mk (blk_below Kg2_3.out hb_); clear hb_) | (go_at_call 63; (with_reducible refine (impl_areBytes.calls A3 c3 pix _ w4 (Kd.C_below HR3.out HB4.out) HC3.out E3.out).mono ?_); rintro e w5 ⟨rfl, hd_⟩; have hb_ := hd_.below; have HB5 := mk (below_then HB4.out HB4.out.size hb_); have Kg2_5 := mk (blk_below Kg2_4.out hb_); have eg2_5_0 : w5.cell? ⟨g2, 0, none⟩ = some (.int .i64 0) := (blk_cell Kg2_5.out 0).trans rfl; have eg2_5_1 : w5.cell? ⟨g2, 1, none⟩ = some (.int .i64 0) := (blk_cell Kg2_5.out 1).trans rfl; have eg2_5_2 : w5.cell? ⟨g2, 2, none⟩ = some (.int .i64 0) := (blk_cell Kg2_5.out 2).trans rfl; have eg2_5_3 : w5.cell? ⟨g2, 3, none⟩ = some (.slice none 0 0) := (blk_cell Kg2_5.out 3).trans rfl; have yg2_5_0 := blk_frozen Kg2_5.out 0; have yg2_5_1 := blk_frozen Kg2_5.out 1; have yg2_5_2 := blk_frozen Kg2_5.out 2; have yg2_5_3 := blk_frozen Kg2_5.out 3; clear hd_ hb_))
 refine bodyPost_ret (results_ct rfl _ _ g2 28 #[.int .i64 0, .int .i64 0, .int .i64 0, .slice none 0 0] (0, 0) _ rfl (by
  refine blk_put (cs := #[.int .i64 0, .int .i64 0, .int .i64 0, .slice none 0 0]) ?_ 3 _ rfl
  refine blk_put (cs := #[.int .i64 0, .int .i64 0, .int .i64 0, .slice none 0 0]) ?_ 2 _ rfl
  refine blk_put (cs := #[.int .i64 0, .int .i64 0, .int .i64 0, .slice none 0 0]) ?_ 1 _ rfl
  refine blk_put (cs := #[.int .i64 0, .int .i64 0, .int .i64 0, .slice none 0 0]) ?_ 0 _ rfl
  exact Kg2_5.out
  ) hu rfl (by kernel_rfl)) rfl ?_
 have G2 := Gg2.out
 exact ⟨_, rfl, Kd.R_nil _ _ _ _ _, below_set (below_set (below_set (below_set HB5.out (by omega)) (by omega)) (by omega)) (by omega)⟩
set_option maxHeartbeats 4000000 in
set_option maxRecDepth 100000 in
theorem step4_yes (a b : Nat) (A : Option Addr) (c : Nat) (d : List Int) (x y wd hg : Nat) (A3 : Option Addr) (c3 : Nat) (pix : List Int) (w : World) (hr0_3 : Kd.C (Kd.int .i64) w A d.length d) (hc0_3 : d.length ≤ c) (hr3 : Kd.C (Kd.int .i64) w A3 pix.length pix) (hc3 : pix.length ≤ c3) (hv1 : validI a b (pix.length : Int) d = true) (hv2 : boxOn a b x y wd hg = true) (hv4 : pix.all byteI = true) :
  Calls Try.prog 45 #[.agg #[.int .i64 (a : Int), .int .i64 (b : Int), .int .i64 (pix.length : Int), .slice A d.length c], .agg #[.int .i64 4, .int .i64 (x : Int), .int .i64 (y : Int), .int .i64 (wd : Int), .int .i64 (hg : Int), .slice A3 pix.length c3]] w fun e w' => ∃ v3_ : Value, e = .returned (.tuple #[.agg #[.int .i64 (a : Int), .int .i64 (b : Int), .int .i64 (pix.length : Int), v3_], .bool true]) ∧ Kd.R (Kd.int .i64) 3 w' w.heap.size (fun _ => True) v3_ (imgD (fillPx a (pix.length : Int) d x y wd hg pix) a b) ∧ Below w.heap.size w w' := by
 have HC := mk hc0_3
 have HR := mk hr0_3
 have HC3 := mk hc3
 have HR3 := mk hr3
 have HB0 := mk (Below.refl w.heap.size w)
 have HV := mk hv1
 have hu := Try.underlying28
 have hm := hr3.2.1
 clear hr0_3 hc0_3 hr3 hc3
 have E2 := mk (impl_isBoxOn_eq hv1 x y wd hg)
 rw [hv2] at E2
 have E3 := mk (areBytesI_eq pix)
 rw [hv4] at E3
 have hs := ((validI_iff a b pix.length d).1 hv1).1
 have hbx := (boxOn_iff a b x y wd hg).1 hv2
 have HPL := mk (show ∀ i j, i < a → j < b → ((fillPx a (pix.length : Int) d x y wd hg pix) i j).length ≤ 4 from fun i j hi hj => by
  unfold fillPx
  split
  ·omega
  exact pxAt_le hv1 (by omega) (by omega))
 clear hv1 hv2 hv4
 go_enter Try.func45, Try.ntmps45
 go_wp2_with (first | ((with_reducible refine gate_dst (N := 2) rfl ?_); refine box_event (by rfl) (N := 2) (by rfl) (cs := #[.int .i64 (a : Int), .int .i64 (b : Int), .int .i64 (pix.length : Int), .slice A d.length c]) (t := 28) (by go_simp; done) ?_; intro g1 hg_ w1 hbox hb; have HB1 := mk (below_then HB0.out HB0.out.size hb); have Kg1_1 := mk hbox; clear hbox hb hg_) | ((with_reducible refine gate_dst (N := 3) rfl ?_); refine box_event (by rfl) (N := 3) (by rfl) (cs := #[.int .i64 4, .int .i64 (x : Int), .int .i64 (y : Int), .int .i64 (wd : Int), .int .i64 (hg : Int), .slice A3 pix.length c3]) (t := 43) (by go_simp; done) ?_; intro g3 hg_ w2 hbox hb; have HB2 := mk (below_then HB1.out HB1.out.size hb); have Kg1_2 := mk (blk_below Kg1_1.out hb); have Kg3_2 := mk hbox; clear hbox hb hg_) | ((with_reducible refine gate_dst (N := 4) rfl ?_); refine box_event (by rfl) (N := 4) (by rfl) (cs := #[.int .i64 0, .int .i64 0, .int .i64 0, .slice none 0 0]) (t := 28) (by go_simp; done) ?_; intro g2 hg_ w3 hbox hb; have HB3 := mk (below_then HB2.out HB2.out.size hb); have Gg2 := mk (show w.heap.size ≤ g2 from by rw [hg_]; exact HB2.out.size); have Kg1_3 := mk (blk_below Kg1_2.out hb); have Kg3_3 := mk (blk_below Kg3_2.out hb); have Kg2_3 := mk hbox; have fg1_0 : w3.cell? ⟨g1, 0, none⟩ = some (.int .i64 (a : Int)) := (blk_cell Kg1_3.out 0).trans rfl; have fg1_1 : w3.cell? ⟨g1, 1, none⟩ = some (.int .i64 (b : Int)) := (blk_cell Kg1_3.out 1).trans rfl; have fg1_2 : w3.cell? ⟨g1, 2, none⟩ = some (.int .i64 (pix.length : Int)) := (blk_cell Kg1_3.out 2).trans rfl; have fg1_3 : w3.cell? ⟨g1, 3, none⟩ = some (.slice A d.length c) := (blk_cell Kg1_3.out 3).trans rfl; have fg3_0 : w3.cell? ⟨g3, 0, none⟩ = some (.int .i64 4) := (blk_cell Kg3_3.out 0).trans rfl; have fg3_1 : w3.cell? ⟨g3, 1, none⟩ = some (.int .i64 (x : Int)) := (blk_cell Kg3_3.out 1).trans rfl; have fg3_2 : w3.cell? ⟨g3, 2, none⟩ = some (.int .i64 (y : Int)) := (blk_cell Kg3_3.out 2).trans rfl; have fg3_3 : w3.cell? ⟨g3, 3, none⟩ = some (.int .i64 (wd : Int)) := (blk_cell Kg3_3.out 3).trans rfl; have fg3_4 : w3.cell? ⟨g3, 4, none⟩ = some (.int .i64 (hg : Int)) := (blk_cell Kg3_3.out 4).trans rfl; clear hbox hb hg_) | (go_at_call 59; (with_reducible refine (impl_isBoxOn.calls a b (pix.length : Int) A c d x y wd hg _ w3 (Kd.C_below HR.out HB3.out) HC.out E2.out).mono ?_); rintro e w4 ⟨rfl, hb_⟩; have HB4 := mk (below_then HB3.out HB3.out.size hb_); have Kg1_4 := mk (blk_below Kg1_3.out hb_); have eg1_4_2 : w4.cell? ⟨g1, 2, none⟩ = some (.int .i64 (pix.length : Int)) := (blk_cell Kg1_4.out 2).trans rfl; have Kg3_4 := mk (blk_below Kg3_3.out hb_); have eg3_4_5 : w4.cell? ⟨g3, 5, none⟩ = some (.slice A3 pix.length c3) := (blk_cell Kg3_4.out 5).trans rfl; have Kg2_4 := mk (blk_below Kg2_3.out hb_); clear hb_) | (go_at_call 63; (with_reducible refine (impl_areBytes.calls A3 c3 pix _ w4 (Kd.C_below HR3.out HB4.out) HC3.out E3.out).mono ?_); rintro e w5 ⟨rfl, hd_⟩; have hb_ := hd_.below; have HB5 := mk (below_then HB4.out HB4.out.size hb_); have Kg1_5 := mk (blk_below Kg1_4.out hb_); have eg1_5_0 : w5.cell? ⟨g1, 0, none⟩ = some (.int .i64 (a : Int)) := (blk_cell Kg1_5.out 0).trans rfl; have eg1_5_1 : w5.cell? ⟨g1, 1, none⟩ = some (.int .i64 (b : Int)) := (blk_cell Kg1_5.out 1).trans rfl; have eg1_5_2 : w5.cell? ⟨g1, 2, none⟩ = some (.int .i64 (pix.length : Int)) := (blk_cell Kg1_5.out 2).trans rfl; have Kg3_5 := mk (blk_below Kg3_4.out hb_); have Kg2_5 := mk (blk_below Kg2_4.out hb_); clear hd_ hb_) | (go_at_call 53; refine (imageBy_calls 80 #[.pointer (some ⟨g3, 0, none⟩), .pointer (some ⟨g1, 0, none⟩)] (fillPx a (pix.length : Int) d x y wd hg pix) a b (pix.length : Int) (by omega) (by omega) w5 (enters_of Try.func80 (by kernel_rfl) rfl) HPL.out (fun W i j hi hj hW => fill1_calls a b pix.length A c d HV.out HC.out 4 x y wd hg (by omega) (by omega) (by omega) (by omega) A3 c3 pix HC3.out i j (by omega) (by omega) g3 W (blk_below Kg3_5.out hW) g1 (blk_below Kg1_5.out hW) (Kd.C_below (Kd.C_below HR.out HB5.out) hW) (Kd.C_below (Kd.C_below HR3.out HB5.out) hW))).mono ?_; rintro e w6 ⟨v6, rfl, hr6, hb_⟩; have HB6 := mk (below_then HB5.out HB5.out.size hb_); have Kg2_6 := mk (blk_below Kg2_5.out hb_); have eg2_6_0 : w6.cell? ⟨g2, 0, none⟩ = some (.int .i64 0) := (blk_cell Kg2_6.out 0).trans rfl; have eg2_6_1 : w6.cell? ⟨g2, 1, none⟩ = some (.int .i64 0) := (blk_cell Kg2_6.out 1).trans rfl; have eg2_6_2 : w6.cell? ⟨g2, 2, none⟩ = some (.int .i64 0) := (blk_cell Kg2_6.out 2).trans rfl; have eg2_6_3 : w6.cell? ⟨g2, 3, none⟩ = some (.slice none 0 0) := (blk_cell Kg2_6.out 3).trans rfl; have yg2_6_0 := blk_frozen Kg2_6.out 0; have yg2_6_1 := blk_frozen Kg2_6.out 1; have yg2_6_2 := blk_frozen Kg2_6.out 2; have yg2_6_3 := blk_frozen Kg2_6.out 3; have HR6 := mk (Kd.R_lower hr6 HB5.out.size); obtain ⟨A6, c6, ev6⟩ := Kd.R_slice HR6.out; subst ev6; clear hr6 hb_))
 have G2 := Gg2.out
 have RR := Kd.R_types HR6.out Kg2_6.out (by decide)
 refine bodyPost_ret (results_ct rfl _ _ g2 28 #[.int .i64 (a : Int), .int .i64 (b : Int), .int .i64 (pix.length : Int), .slice A6 (imgD (fillPx a (pix.length : Int) d x y wd hg pix) a b).length c6] (0, 0) _ rfl (by
  refine blk_put (cs := #[.int .i64 (a : Int), .int .i64 (b : Int), .int .i64 (pix.length : Int), .slice none 0 0]) ?_ 3 _ rfl
  refine blk_put (cs := #[.int .i64 (a : Int), .int .i64 (b : Int), .int .i64 0, .slice none 0 0]) ?_ 2 _ rfl
  refine blk_put (cs := #[.int .i64 (a : Int), .int .i64 0, .int .i64 0, .slice none 0 0]) ?_ 1 _ rfl
  refine blk_put (cs := #[.int .i64 0, .int .i64 0, .int .i64 0, .slice none 0 0]) ?_ 0 _ rfl
  exact Kg2_6.out
  ) hu rfl (by kernel_rfl)) rfl ?_
 exact ⟨_, rfl, Kd.R_mono (Kd.R_far (Kd.R_far (Kd.R_far (Kd.R_far RR (fun k hk => hk.2) _) (fun k hk => hk.2) _) (fun k hk => hk.2) _) (fun k hk => hk.2) _) (fun _ _ => trivial), below_set (below_set (below_set (below_set HB6.out (by omega)) (by omega)) (by omega)) (by omega)⟩
set_option maxHeartbeats 4000000 in
set_option maxRecDepth 100000 in
theorem step5 (a b p : Int) (A : Option Addr) (c : Nat) (d : List Int) (kind x y wd hg : Int) (A3 : Option Addr) (c3 : Nat) (pix : List Int) (w : World) (hr0_3 : Kd.C (Kd.int .i64) w A d.length d) (hc0_3 : d.length ≤ c) (hr3 : Kd.C (Kd.int .i64) w A3 pix.length pix) (hc3 : pix.length ≤ c3) (hv1 : validI a b p d = true) (h0 : ¬ kind = 0) (h1 : ¬ kind = 1) (h2 : ¬ kind = 2) (h3 : ¬ kind = 3) (h4 : ¬ kind = 4) :
  Calls Try.prog 45 #[.agg #[.int .i64 a, .int .i64 b, .int .i64 p, .slice A d.length c], .agg #[.int .i64 kind, .int .i64 x, .int .i64 y, .int .i64 wd, .int .i64 hg, .slice A3 pix.length c3]] w fun e w' => ∃ v3_ : Value, e = .returned (.tuple #[.agg #[.int .i64 0, .int .i64 0, .int .i64 0, v3_], .bool false]) ∧ Kd.R (Kd.int .i64) 3 w' w.heap.size (fun _ => True) v3_ [] ∧ Below w.heap.size w w' := by
 have HB0 := mk (Below.refl w.heap.size w)
 have hu := Try.underlying28
 clear hr0_3 hc0_3 hr3 hc3
 have k0a : (kind == 0) = false := by simpa using h0
 have k1a : (kind == 1) = false := by simpa using h1
 have k2a : (kind == 2) = false := by simpa using h2
 have k3a : (kind == 3) = false := by simpa using h3
 have k4a : (kind == 4) = false := by simpa using h4
 clear hv1 h0 h1 h2 h3 h4
 go_enter Try.func45, Try.ntmps45
 go_wp2_with (first | ((with_reducible refine gate_dst (N := 2) rfl ?_); refine box_event (by rfl) (N := 2) (by rfl) (cs := #[.int .i64 a, .int .i64 b, .int .i64 p, .slice A d.length c]) (t := 28) (by go_simp; done) ?_; intro g1 hg_ w1 hbox hb; have HB1 := mk (below_then HB0.out HB0.out.size hb); clear hbox hb hg_) | ((with_reducible refine gate_dst (N := 3) rfl ?_); refine box_event (by rfl) (N := 3) (by rfl) (cs := #[.int .i64 kind, .int .i64 x, .int .i64 y, .int .i64 wd, .int .i64 hg, .slice A3 pix.length c3]) (t := 43) (by go_simp; done) ?_; intro g3 hg_ w2 hbox hb; have HB2 := mk (below_then HB1.out HB1.out.size hb); have Kg3_2 := mk hbox; clear hbox hb hg_) | ((with_reducible refine gate_dst (N := 4) rfl ?_); refine box_event (by rfl) (N := 4) (by rfl) (cs := #[.int .i64 0, .int .i64 0, .int .i64 0, .slice none 0 0]) (t := 28) (by go_simp; done) ?_; intro g2 hg_ w3 hbox hb; have HB3 := mk (below_then HB2.out HB2.out.size hb); have Gg2 := mk (show w.heap.size ≤ g2 from by rw [hg_]; exact HB2.out.size); have Kg3_3 := mk (blk_below Kg3_2.out hb); have Kg2_3 := mk hbox; have fg3_0 : w3.cell? ⟨g3, 0, none⟩ = some (.int .i64 kind) := (blk_cell Kg3_3.out 0).trans rfl; have fg2_0 : w3.cell? ⟨g2, 0, none⟩ = some (.int .i64 0) := (blk_cell Kg2_3.out 0).trans rfl; have fg2_1 : w3.cell? ⟨g2, 1, none⟩ = some (.int .i64 0) := (blk_cell Kg2_3.out 1).trans rfl; have fg2_2 : w3.cell? ⟨g2, 2, none⟩ = some (.int .i64 0) := (blk_cell Kg2_3.out 2).trans rfl; have fg2_3 : w3.cell? ⟨g2, 3, none⟩ = some (.slice none 0 0) := (blk_cell Kg2_3.out 3).trans rfl; have yg2_0 := blk_frozen Kg2_3.out 0; have yg2_1 := blk_frozen Kg2_3.out 1; have yg2_2 := blk_frozen Kg2_3.out 2; have yg2_3 := blk_frozen Kg2_3.out 3; clear hbox hb hg_))
 refine bodyPost_ret (results_ct rfl _ _ g2 28 #[.int .i64 0, .int .i64 0, .int .i64 0, .slice none 0 0] (0, 0) _ rfl (by
  refine blk_put (cs := #[.int .i64 0, .int .i64 0, .int .i64 0, .slice none 0 0]) ?_ 3 _ rfl
  refine blk_put (cs := #[.int .i64 0, .int .i64 0, .int .i64 0, .slice none 0 0]) ?_ 2 _ rfl
  refine blk_put (cs := #[.int .i64 0, .int .i64 0, .int .i64 0, .slice none 0 0]) ?_ 1 _ rfl
  refine blk_put (cs := #[.int .i64 0, .int .i64 0, .int .i64 0, .slice none 0 0]) ?_ 0 _ rfl
  exact Kg2_3.out
  ) hu rfl (by kernel_rfl)) rfl ?_
 have G2 := Gg2.out
 exact ⟨_, rfl, Kd.R_nil _ _ _ _ _, below_set (below_set (below_set (below_set HB3.out (by omega)) (by omega)) (by omega)) (by omega)⟩
theorem impl_doStep.calls (a b p : Int) (A : Option Addr) (c : Nat) (d : List Int) (kind x y wd hg : Int) (A3 : Option Addr) (c3 : Nat) (pix : List Int) (r1 r2 r3 : Int) (r4 : List Int) (r5 : Bool) (w : World) (hr0_3 : Kd.C (Kd.int .i64) w A d.length d) (hc0_3 : d.length ≤ c) (hr1_5 : Kd.C (Kd.int .i64) w A3 pix.length pix) (hc1_5 : pix.length ≤ c3) (h : impl_doStep.f a b p d kind x y wd hg pix = some (r1, r2, r3, r4, r5)) :
  Calls Try.prog 45 #[.agg #[.int .i64 a, .int .i64 b, .int .i64 p, .slice A d.length c], .agg #[.int .i64 kind, .int .i64 x, .int .i64 y, .int .i64 wd, .int .i64 hg, .slice A3 pix.length c3]] w fun e w' => ∃ v3_ : Value, e = .returned (.tuple #[.agg #[.int .i64 r1, .int .i64 r2, .int .i64 r3, v3_], .bool r5]) ∧ Kd.R (Kd.int .i64) 3 w' w.heap.size (fun _ => True) v3_ r4 ∧ Below w.heap.size w w' := by
 unfold impl_doStep.f at h
 by_cases hv1 : validI a b p d = true
 ·rw [if_pos hv1] at h
  have hv := Option.some.inj h
  clear h
  unfold doStepV at hv
  by_cases h0 : kind = 0
  ·subst h0
   rw [if_pos rfl] at hv
   obtain ⟨rfl, rfl, rfl, rfl, rfl⟩ : a = r1 ∧ b = r2 ∧ p = r3 ∧ imgD (mirPx a p d) a.toNat b.toNat = r4 ∧ true = r5 := by simpa using hv
   exact step0 a b p A c d x y wd hg A3 c3 pix w hr0_3 hc0_3 hr1_5 hc1_5 hv1
  rw [if_neg h0] at hv
  by_cases h1 : kind = 1
  ·subst h1
   rw [if_pos rfl] at hv
   obtain ⟨rfl, rfl, rfl, rfl, rfl⟩ : b = r1 ∧ a = r2 ∧ p = r3 ∧ imgD (turnPx a b p d) b.toNat a.toNat = r4 ∧ true = r5 := by simpa using hv
   exact step1 a b p A c d x y wd hg A3 c3 pix w hr0_3 hc0_3 hr1_5 hc1_5 hv1
  rw [if_neg h1] at hv
  by_cases h2 : kind = 2
  ·subst h2
   rw [if_pos rfl] at hv
   obtain ⟨rfl, rfl, rfl, rfl, rfl⟩ : a = r1 ∧ b = r2 ∧ p = r3 ∧ invD d = r4 ∧ true = r5 := by simpa using hv
   exact step2 a b p A c d x y wd hg A3 c3 pix w hr0_3 hc0_3 hr1_5 hc1_5 hv1
  rw [if_neg h2] at hv
  by_cases h3 : kind = 3
  ·subst h3
   rw [if_pos rfl] at hv
   cases hv2 : boxOn a b x y wd hg with
   | true =>
    rw [hv2, if_pos rfl] at hv
    obtain ⟨rfl, rfl, rfl, rfl, rfl⟩ : wd = r1 ∧ hg = r2 ∧ p = r3 ∧ imgD (cropPx a p d x.toNat y.toNat) wd.toNat hg.toNat = r4 ∧ true = r5 := by simpa using hv
    exact step3_yes a b p A c d x y wd hg A3 c3 pix w hr0_3 hc0_3 hr1_5 hc1_5 hv1 hv2
   | false =>
    rw [hv2, if_neg (by simp)] at hv
    obtain ⟨rfl, rfl, rfl, rfl, rfl⟩ : 0 = r1 ∧ 0 = r2 ∧ 0 = r3 ∧ [] = r4 ∧ false = r5 := by simpa using hv
    exact step3_no a b p A c d x y wd hg A3 c3 pix w hr0_3 hc0_3 hr1_5 hc1_5 hv1 hv2
  rw [if_neg h3] at hv
  by_cases h4 : kind = 4
  ·subst h4
   rw [if_pos rfl] at hv
   cases hv2 : boxOn a b x y wd hg with
   | false =>
    rw [hv2, if_neg (by simp)] at hv
    obtain ⟨rfl, rfl, rfl, rfl, rfl⟩ : 0 = r1 ∧ 0 = r2 ∧ 0 = r3 ∧ [] = r4 ∧ false = r5 := by simpa using hv
    exact step4_no1 a b p A c d x y wd hg A3 c3 pix w hr0_3 hc0_3 hr1_5 hc1_5 hv1 hv2
   | true =>
    by_cases hv3 : (pix.length : Int) = p
    ·cases hv4 : pix.all byteI with
     | false =>
      rw [hv2, hv4, if_neg (by simp)] at hv
      obtain ⟨rfl, rfl, rfl, rfl, rfl⟩ : 0 = r1 ∧ 0 = r2 ∧ 0 = r3 ∧ [] = r4 ∧ false = r5 := by simpa using hv
      subst hv3
      exact step4_no3 a b A c d x y wd hg A3 c3 pix w hr0_3 hc0_3 hr1_5 hc1_5 hv1 hv2 hv4
     | true =>
      rw [hv2, hv4, if_pos ⟨rfl, hv3, rfl⟩] at hv
      have hs := ((validI_iff a b p d).1 hv1).1
      have hbx := (boxOn_iff a b x y wd hg).1 hv2
      subst hv3
      obtain ⟨an, rfl⟩ := Int.eq_ofNat_of_zero_le (show 0 ≤ a by omega)
      obtain ⟨bn, rfl⟩ := Int.eq_ofNat_of_zero_le (show 0 ≤ b by omega)
      obtain ⟨xn, rfl⟩ := Int.eq_ofNat_of_zero_le (show 0 ≤ x by omega)
      obtain ⟨yn, rfl⟩ := Int.eq_ofNat_of_zero_le (show 0 ≤ y by omega)
      obtain ⟨wn, rfl⟩ := Int.eq_ofNat_of_zero_le (show 0 ≤ wd by omega)
      obtain ⟨hn, rfl⟩ := Int.eq_ofNat_of_zero_le (show 0 ≤ hg by omega)
      obtain ⟨rfl, rfl, rfl, rfl, rfl⟩ : (an : Int) = r1 ∧ (bn : Int) = r2 ∧ (pix.length : Int) = r3 ∧ imgD (fillPx an (pix.length : Int) d xn yn wn hn pix) an bn = r4 ∧ true = r5 := by simpa using hv
      exact step4_yes an bn A c d xn yn wn hn A3 c3 pix w hr0_3 hc0_3 hr1_5 hc1_5 hv1 hv2 hv4
    rw [if_neg (fun h => hv3 h.2.1)] at hv
    obtain ⟨rfl, rfl, rfl, rfl, rfl⟩ : 0 = r1 ∧ 0 = r2 ∧ 0 = r3 ∧ [] = r4 ∧ false = r5 := by simpa using hv
    exact step4_no2 a b p A c d x y wd hg A3 c3 pix w hr0_3 hc0_3 hr1_5 hc1_5 hv1 hv2 hv3
  rw [if_neg h4] at hv
  obtain ⟨rfl, rfl, rfl, rfl, rfl⟩ : 0 = r1 ∧ 0 = r2 ∧ 0 = r3 ∧ [] = r4 ∧ false = r5 := by simpa using hv
  exact step5 a b p A c d kind x y wd hg A3 c3 pix w hr0_3 hc0_3 hr1_5 hc1_5 hv1 h0 h1 h2 h3 h4
 rw [if_neg hv1] at h; cases h
end Go.Proofs.Ytgccpcnakkioiaa.Q

namespace Go.Proofs.Ytgccpcnakkioiaa.Q
open Go.RowKit Go.Proofs.YtgccpcnakkioiaaW.PrintWords Go.Proofs.YtgccpcnakkioiaaW.PrintLast Go.Proofs.YtgccpcnakkioiaaW.PrintMore
open Go.Proofs.YtgccpcnakkioiaaW.PrintWords.Aside0 (mk)
attribute [local go_sem] max2_int min2_int max_two min_two max_three min_three max_four min_four
set_option linter.unusedVariables false
set_option linter.unusedSimpArgs false
def impl_DoStep.f (a0_0 : Int) (a0_1 : Int) (a0_2 : Int) (l0_3 : List Int) (a1_0 : Int) (a1_1 : Int) (a1_2 : Int) (a1_3 : Int) (a1_4 : Int) (l1_5 : List Int) : Option (Int × Int × Int × List Int × Bool) := (impl_isImage.f a0_0 a0_1 a0_2 l0_3).bind fun tz1 => (if tz1 = true then ((impl_doStep.f a0_0 a0_1 a0_2 l0_3 a1_0 a1_1 a1_2 a1_3 a1_4 l1_5).bind fun btz0 => (some (btz0.1, btz0.2.1, btz0.2.2.1, btz0.2.2.2.1, btz0.2.2.2.2))) else (some (0, 0, 0, ([] : List Int), false)))
set_option maxHeartbeats 8000000 in
set_option maxRecDepth 100000 in
theorem impl_DoStep.calls (a0_0 : Int) (a0_1 : Int) (a0_2 : Int) (A0_3 : Option Addr) (c0_3 : Nat) (l0_3 : List Int) (a1_0 : Int) (a1_1 : Int) (a1_2 : Int) (a1_3 : Int) (a1_4 : Int) (A1_5 : Option Addr) (c1_5 : Nat) (l1_5 : List Int) (r1 : Int) (r2 : Int) (r3 : Int) (r4 : List Int) (r5 : Bool) (w : World) (hr0_3 : Kd.C (Kd.int .i64) w A0_3 l0_3.length l0_3) (hc0_3 : l0_3.length ≤ c0_3) (hr1_5 : Kd.C (Kd.int .i64) w A1_5 l1_5.length l1_5) (hc1_5 : l1_5.length ≤ c1_5) (h : impl_DoStep.f a0_0 a0_1 a0_2 l0_3 a1_0 a1_1 a1_2 a1_3 a1_4 l1_5 = some (r1, r2, r3, r4, r5)) :
  Calls Try.prog 22 #[.agg #[.int .i64 a0_0, .int .i64 a0_1, .int .i64 a0_2, .slice A0_3 l0_3.length c0_3], .agg #[.int .i64 a1_0, .int .i64 a1_1, .int .i64 a1_2, .int .i64 a1_3, .int .i64 a1_4, .slice A1_5 l1_5.length c1_5]] w fun e w' => ∃ v3_ : Value, e = .returned (.tuple #[.agg #[.int .i64 r1, .int .i64 r2, .int .i64 r3, v3_], .bool r5]) ∧ Kd.R (Kd.int .i64) 3 w' w.heap.size (fun _ => True) v3_ r4 ∧ Below w.heap.size w w' := by
 have hu28 := Try.underlying28
 have hu43 := Try.underlying43
 have HR0_3 := mk hr0_3
 have HC0_3 := mk hc0_3
 clear hr0_3 hc0_3
 have HR1_5 := mk hr1_5
 have HC1_5 := mk hc1_5
 clear hr1_5 hc1_5
 have HB := mk (Below.refl w.heap.size w)
 have H : ((impl_isImage.f a0_0 a0_1 a0_2 l0_3).bind fun tz1 => (if tz1 = true then ((impl_doStep.f a0_0 a0_1 a0_2 l0_3 a1_0 a1_1 a1_2 a1_3 a1_4 l1_5).bind fun btz0 => (some (btz0.1, btz0.2.1, btz0.2.2.1, btz0.2.2.2.1, btz0.2.2.2.2))) else (some (0, 0, 0, ([] : List Int), false)))) = some (r1, r2, r3, r4, r5) := h
 clear h
 replace H := Option.bind_eq_some_iff.mp H
 obtain ⟨tz1, A30, H⟩ := H
 replace H : (if tz1 = true then ((impl_doStep.f a0_0 a0_1 a0_2 l0_3 a1_0 a1_1 a1_2 a1_3 a1_4 l1_5).bind fun btz0 => (some (btz0.1, btz0.2.1, btz0.2.2.1, btz0.2.2.2.1, btz0.2.2.2.2))) else (some (0, 0, 0, ([] : List Int), false))) = some (r1, r2, r3, r4, r5) := H
 have A3 := mk A30
 clear A30
 by_cases c4 : tz1 = true
 ·subst c4
  have H1 : ((impl_doStep.f a0_0 a0_1 a0_2 l0_3 a1_0 a1_1 a1_2 a1_3 a1_4 l1_5).bind fun btz0 => (some (btz0.1, btz0.2.1, btz0.2.2.1, btz0.2.2.2.1, btz0.2.2.2.2))) = some (r1, r2, r3, r4, r5) := by rw [if_pos rfl] at H; exact H
  clear H
  have H := H1
  clear H1
  replace H := Option.bind_eq_some_iff.mp H
  obtain ⟨⟨tz0, tz2, tz3, tz4, tz5⟩, A50, H⟩ := H
  replace H : (some (tz0, tz2, tz3, tz4, tz5)) = some (r1, r2, r3, r4, r5) := H
  have A5 := mk A50
  clear A50
  simp only [Option.some.injEq, Prod.mk.injEq] at H
  obtain ⟨rfl, rfl, rfl, rfl, rfl⟩ := H
  go_enter Try.func22, Try.ntmps22
  go_wp2_with (first | ((with_reducible refine gate_dst (N := 2) rfl ?_); refine box_event (by rfl) (N := 2) (by rfl) (cs := #[.int .i64 a0_0, .int .i64 a0_1, .int .i64 a0_2, .slice A0_3 l0_3.length c0_3]) (t := 28) (by go_simp; done) ?_; intro gbz1 hg w6 hbox hb; replace HB := mk (below_step HB.out hb); have BKz1 := mk (hbox); clear hb hbox hg) | ((with_reducible refine gate_dst (N := 3) rfl ?_); refine box_event (by rfl) (N := 3) (by rfl) (cs := #[.int .i64 a1_0, .int .i64 a1_1, .int .i64 a1_2, .int .i64 a1_3, .int .i64 a1_4, .slice A1_5 l1_5.length c1_5]) (t := 43) (by go_simp; done) ?_; intro gbz2 hg w7 hbox hb; replace BKz1 := mk (blk_below BKz1.out hb); replace HB := mk (below_step HB.out hb); have BKz2 := mk (hbox); clear hb hbox hg) | ((with_reducible refine gate_dst (N := 4) rfl ?_); refine box_event (by rfl) (N := 4) (by rfl) (cs := #[.int .i64 0, .int .i64 0, .int .i64 0, .slice none 0 0]) (t := 28) (by go_simp; done) ?_; intro gbz0 hg w8 hbox hb; replace BKz1 := mk (blk_below BKz1.out hb); replace BKz2 := mk (blk_below BKz2.out hb); have BKz0 := mk (hbox); have GEz0 := mk ((by rw [hg]; exact (below_size HB.out) : w.heap.size ≤ gbz0)); replace HB := mk (below_step HB.out hb); clear hb hbox hg; have hcz11_0 : w8.cell? ⟨gbz1, 0, none⟩ = some (.int .i64 a0_0) := (blk_cell BKz1.out 0).trans rfl; have hcz11_1 : w8.cell? ⟨gbz1, 1, none⟩ = some (.int .i64 a0_1) := (blk_cell BKz1.out 1).trans rfl; have hcz11_2 : w8.cell? ⟨gbz1, 2, none⟩ = some (.int .i64 a0_2) := (blk_cell BKz1.out 2).trans rfl; have hcz11_3 : w8.cell? ⟨gbz1, 3, none⟩ = some (.slice A0_3 l0_3.length c0_3) := (blk_cell BKz1.out 3).trans rfl) | ((with_reducible refine gate_callee (f := 43) rfl ?_); refine goesL_ (some 7) rfl rfl Try.func43 (by kernel_rfl) rfl #[.agg #[.int .i64 a0_0, .int .i64 a0_1, .int .i64 a0_2, .slice A0_3 l0_3.length c0_3]] rfl (by (try simp only [List.map_toArray, List.map_cons, List.map_nil]); rfl) ?_; (with_reducible refine (impl_isImage.calls a0_0 a0_1 a0_2 _ _ l0_3 true _ ?side1 ?side2 A3.out).mono ?_); (case side1 => repeat (exact (Kd.C_below HR0_3.out HB.out))); (case side2 => exact HC0_3.out); rintro e w12 ⟨rfl, hb⟩; refine ⟨_, rfl, ?_⟩; replace BKz1 := mk (blk_below BKz1.out hb); replace BKz2 := mk (blk_below BKz2.out hb); replace BKz0 := mk (blk_below BKz0.out hb); replace HB := mk (below_step HB.out hb); (try clear hb); have hcz13_0 : w12.cell? ⟨gbz1, 0, none⟩ = some (.int .i64 a0_0) := (blk_cell BKz1.out 0).trans rfl; have hcz13_1 : w12.cell? ⟨gbz1, 1, none⟩ = some (.int .i64 a0_1) := (blk_cell BKz1.out 1).trans rfl; have hcz13_2 : w12.cell? ⟨gbz1, 2, none⟩ = some (.int .i64 a0_2) := (blk_cell BKz1.out 2).trans rfl; have hcz13_3 : w12.cell? ⟨gbz1, 3, none⟩ = some (.slice A0_3 l0_3.length c0_3) := (blk_cell BKz1.out 3).trans rfl; have hcz15_0 : w12.cell? ⟨gbz2, 0, none⟩ = some (.int .i64 a1_0) := (blk_cell BKz2.out 0).trans rfl; have hcz15_1 : w12.cell? ⟨gbz2, 1, none⟩ = some (.int .i64 a1_1) := (blk_cell BKz2.out 1).trans rfl; have hcz15_2 : w12.cell? ⟨gbz2, 2, none⟩ = some (.int .i64 a1_2) := (blk_cell BKz2.out 2).trans rfl; have hcz15_3 : w12.cell? ⟨gbz2, 3, none⟩ = some (.int .i64 a1_3) := (blk_cell BKz2.out 3).trans rfl; have hcz15_4 : w12.cell? ⟨gbz2, 4, none⟩ = some (.int .i64 a1_4) := (blk_cell BKz2.out 4).trans rfl; have hcz15_5 : w12.cell? ⟨gbz2, 5, none⟩ = some (.slice A1_5 l1_5.length c1_5) := (blk_cell BKz2.out 5).trans rfl) | ((with_reducible refine gate_callee (f := 45) rfl ?_); refine goesL_ (some 12) rfl rfl Try.func45 (by kernel_rfl) rfl #[.agg #[.int .i64 a0_0, .int .i64 a0_1, .int .i64 a0_2, .slice A0_3 l0_3.length c0_3], .agg #[.int .i64 a1_0, .int .i64 a1_1, .int .i64 a1_2, .int .i64 a1_3, .int .i64 a1_4, .slice A1_5 l1_5.length c1_5]] rfl (by (try simp only [List.map_toArray, List.map_cons, List.map_nil]); rfl) ?_; (with_reducible refine (impl_doStep.calls a0_0 a0_1 a0_2 _ _ l0_3 a1_0 a1_1 a1_2 a1_3 a1_4 _ _ l1_5 tz0 tz2 tz3 tz4 tz5 _ ?side1 ?side2 ?side3 ?side4 A5.out).mono ?_); (case side1 => repeat (exact (Kd.C_below HR0_3.out HB.out))); (case side2 => exact HC0_3.out); (case side3 => repeat (exact (Kd.C_below HR1_5.out HB.out))); (case side4 => exact HC1_5.out); rintro e w16 ⟨vz0, rfl, ho0, hb⟩; refine ⟨_, rfl, ?_⟩; have n0_ := mk (Kd.R_lower ho0 (below_size HB.out)); have n3_ := mk (blk_below BKz0.out hb); have n4_ := mk (below_step HB.out hb); clear BKz1; clear BKz2; clear BKz0; clear HB; have HOz0 := n0_; have BKz0 := n3_; have HB := n4_; (try clear hb); (try clear ho0); have hcz17_0 : w16.cell? ⟨gbz0, 0, none⟩ = some (.int .i64 0) := (blk_cell BKz0.out 0).trans rfl; have hcz17_1 : w16.cell? ⟨gbz0, 1, none⟩ = some (.int .i64 0) := (blk_cell BKz0.out 1).trans rfl; have hcz17_2 : w16.cell? ⟨gbz0, 2, none⟩ = some (.int .i64 0) := (blk_cell BKz0.out 2).trans rfl; have hcz17_3 : w16.cell? ⟨gbz0, 3, none⟩ = some (.slice none 0 0) := (blk_cell BKz0.out 3).trans rfl; have hfz17_0 := blk_frozen BKz0.out 0; have hfz17_1 := blk_frozen BKz0.out 1; have hfz17_2 := blk_frozen BKz0.out 2; have hfz17_3 := blk_frozen BKz0.out 3; obtain ⟨Ao18, co18, eo18⟩ := Kd.R_slice HOz0.out; subst eo18))
  refine bodyPost_ret (results_ct rfl _ _ gbz0 28 #[.int .i64 tz0, .int .i64 tz2, .int .i64 tz3, .slice Ao18 tz4.length co18] (0, 0) _ rfl (by refine blk_put (cs := #[.int .i64 tz0, .int .i64 tz2, .int .i64 tz3, .slice none 0 0]) ?_ 3 _ rfl; refine blk_put (cs := #[.int .i64 tz0, .int .i64 tz2, .int .i64 0, .slice none 0 0]) ?_ 2 _ rfl; refine blk_put (cs := #[.int .i64 tz0, .int .i64 0, .int .i64 0, .slice none 0 0]) ?_ 1 _ rfl; refine blk_put (cs := #[.int .i64 0, .int .i64 0, .int .i64 0, .slice none 0 0]) ?_ 0 _ rfl; (with_reducible repeat (first | refine blk_drewN ?_ _ | refine blk_drew ?_ | refine blk_alloc ?_ _)); exact BKz0.out) Try.underlying28 rfl (by kernel_rfl)) rfl ?_
  exact ⟨_, by rfl, by (with_reducible repeat (first | apply Kd.R_alloc | apply Kd.R_drewN | apply Kd.R_drew)); exact Kd.R_mono (Kd.R_far (p := ⟨gbz0, 3, none⟩) (Kd.R_far (p := ⟨gbz0, 2, none⟩) (Kd.R_far (p := ⟨gbz0, 1, none⟩) (Kd.R_far (p := ⟨gbz0, 0, none⟩) (Kd.R_types HOz0.out BKz0.out (by decide)) (fun _ hk => hk.2) (.int .i64 tz0)) (fun _ hk => hk.2) (.int .i64 tz2)) (fun _ hk => hk.2) (.int .i64 tz3)) (fun _ hk => hk.2) (.slice Ao18 tz4.length co18)) (fun _ hk => trivial), by repeat (with_reducible first | exact HB.out | refine below_set ?_ GEz0.out)⟩
 replace c4 := Bool.eq_false_iff.mpr c4
 subst c4
 have H1 : (some (0, 0, 0, ([] : List Int), false)) = some (r1, r2, r3, r4, r5) := by rw [if_neg (show ¬ (false = true) by decide)] at H; exact H
 clear H
 have H := H1
 clear H1
 simp only [Option.some.injEq, Prod.mk.injEq] at H
 obtain ⟨rfl, rfl, rfl, rfl, rfl⟩ := H
 go_enter Try.func22, Try.ntmps22
 go_wp2_with (first | ((with_reducible refine gate_dst (N := 2) rfl ?_); refine box_event (by rfl) (N := 2) (by rfl) (cs := #[.int .i64 a0_0, .int .i64 a0_1, .int .i64 a0_2, .slice A0_3 l0_3.length c0_3]) (t := 28) (by go_simp; done) ?_; intro gbz1 hg w19 hbox hb; replace HB := mk (below_step HB.out hb); have BKz1 := mk (hbox); clear hb hbox hg) | ((with_reducible refine gate_dst (N := 3) rfl ?_); refine box_event (by rfl) (N := 3) (by rfl) (cs := #[.int .i64 a1_0, .int .i64 a1_1, .int .i64 a1_2, .int .i64 a1_3, .int .i64 a1_4, .slice A1_5 l1_5.length c1_5]) (t := 43) (by go_simp; done) ?_; intro gbz2 hg w20 hbox hb; replace BKz1 := mk (blk_below BKz1.out hb); replace HB := mk (below_step HB.out hb); have BKz2 := mk (hbox); clear hb hbox hg) | ((with_reducible refine gate_dst (N := 4) rfl ?_); refine box_event (by rfl) (N := 4) (by rfl) (cs := #[.int .i64 0, .int .i64 0, .int .i64 0, .slice none 0 0]) (t := 28) (by go_simp; done) ?_; intro gbz0 hg w21 hbox hb; replace BKz1 := mk (blk_below BKz1.out hb); replace BKz2 := mk (blk_below BKz2.out hb); have BKz0 := mk (hbox); have GEz0 := mk ((by rw [hg]; exact (below_size HB.out) : w.heap.size ≤ gbz0)); replace HB := mk (below_step HB.out hb); clear hb hbox hg; have hcz24_0 : w21.cell? ⟨gbz1, 0, none⟩ = some (.int .i64 a0_0) := (blk_cell BKz1.out 0).trans rfl; have hcz24_1 : w21.cell? ⟨gbz1, 1, none⟩ = some (.int .i64 a0_1) := (blk_cell BKz1.out 1).trans rfl; have hcz24_2 : w21.cell? ⟨gbz1, 2, none⟩ = some (.int .i64 a0_2) := (blk_cell BKz1.out 2).trans rfl; have hcz24_3 : w21.cell? ⟨gbz1, 3, none⟩ = some (.slice A0_3 l0_3.length c0_3) := (blk_cell BKz1.out 3).trans rfl) | ((with_reducible refine gate_callee (f := 43) rfl ?_); refine goesL_ (some 7) rfl rfl Try.func43 (by kernel_rfl) rfl #[.agg #[.int .i64 a0_0, .int .i64 a0_1, .int .i64 a0_2, .slice A0_3 l0_3.length c0_3]] rfl (by (try simp only [List.map_toArray, List.map_cons, List.map_nil]); rfl) ?_; (with_reducible refine (impl_isImage.calls a0_0 a0_1 a0_2 _ _ l0_3 false _ ?side1 ?side2 A3.out).mono ?_); (case side1 => repeat (exact (Kd.C_below HR0_3.out HB.out))); (case side2 => exact HC0_3.out); rintro e w25 ⟨rfl, hb⟩; refine ⟨_, rfl, ?_⟩; have n2_ := mk (blk_below BKz0.out hb); have n3_ := mk (below_step HB.out hb); clear BKz1; clear BKz2; clear BKz0; clear HB; have BKz0 := n2_; have HB := n3_; (try clear hb); have hcz27_0 : w25.cell? ⟨gbz0, 0, none⟩ = some (.int .i64 0) := (blk_cell BKz0.out 0).trans rfl; have hcz27_1 : w25.cell? ⟨gbz0, 1, none⟩ = some (.int .i64 0) := (blk_cell BKz0.out 1).trans rfl; have hcz27_2 : w25.cell? ⟨gbz0, 2, none⟩ = some (.int .i64 0) := (blk_cell BKz0.out 2).trans rfl; have hcz27_3 : w25.cell? ⟨gbz0, 3, none⟩ = some (.slice none 0 0) := (blk_cell BKz0.out 3).trans rfl; have hfz27_0 := blk_frozen BKz0.out 0; have hfz27_1 := blk_frozen BKz0.out 1; have hfz27_2 := blk_frozen BKz0.out 2; have hfz27_3 := blk_frozen BKz0.out 3))
 refine bodyPost_ret (results_ct rfl _ _ gbz0 28 #[.int .i64 0, .int .i64 0, .int .i64 0, .slice none 0 0] (0, 0) _ rfl (by refine blk_put (cs := #[.int .i64 0, .int .i64 0, .int .i64 0, .slice none 0 0]) ?_ 3 _ rfl; refine blk_put (cs := #[.int .i64 0, .int .i64 0, .int .i64 0, .slice none 0 0]) ?_ 2 _ rfl; refine blk_put (cs := #[.int .i64 0, .int .i64 0, .int .i64 0, .slice none 0 0]) ?_ 1 _ rfl; refine blk_put (cs := #[.int .i64 0, .int .i64 0, .int .i64 0, .slice none 0 0]) ?_ 0 _ rfl; (with_reducible repeat (first | refine blk_drewN ?_ _ | refine blk_drew ?_ | refine blk_alloc ?_ _)); exact BKz0.out) Try.underlying28 rfl (by kernel_rfl)) rfl ?_
 exact ⟨_, by rfl, by exact Kd.R_nil _ _ _ _ _, by repeat (with_reducible first | exact HB.out | refine below_set ?_ GEz0.out)⟩


def spec_copyImage.f (a0_0 : Int) (a0_1 : Int) (a0_2 : Int) (l0_3 : List Int) : Option (Int × Int × Int × List Int) := (spec_copyInts.f l0_3).bind fun tz0 => (some (a0_0, a0_1, a0_2, tz0))
def spec_copyImage.T1 : Bool × List (List Nat × List Nat) := (true, [([], []), ([0], [0]), ([], []), ([2], [2]), ([], []), ([4], [4]), ([], []), ([6], [6]), ([7], [7]), ([1, 3, 5, 8], [1, 3, 5, 8]), ([9, 8, 0, 1, 2, 3, 4, 5, 6, 7, 8, 9], [9])])
def spec_copyImage.B1 : List Nat := [0, 1, 0, 4, 0, 16, 0, 64, 192, 511, 1023]
theorem spec_copyImage.tab1 : rtab .any (opsOf Try.f40 1) = spec_copyImage.T1 := by kernel_rfl
theorem spec_copyImage.bits1 : waitsOk spec_copyImage.T1.2 spec_copyImage.B1 = true := by kernel_rfl
set_option maxHeartbeats 8000000 in
set_option maxRecDepth 100000 in
theorem spec_copyImage.calls (a0_0 : Int) (a0_1 : Int) (a0_2 : Int) (A0_3 : Option Addr) (c0_3 : Nat) (l0_3 : List Int) (r1 : Int) (r2 : Int) (r3 : Int) (r4 : List Int) (w : World) (hr0_3 : Kd.C (Kd.int .i64) w A0_3 l0_3.length l0_3) (hc0_3 : l0_3.length ≤ c0_3) (h : spec_copyImage.f a0_0 a0_1 a0_2 l0_3 = some (r1, r2, r3, r4)) :
  Calls Try.prog 40 #[.agg #[.int .i64 a0_0, .int .i64 a0_1, .int .i64 a0_2, .slice A0_3 l0_3.length c0_3]] w fun e w' => ∃ v3_ : Value, e = .returned (.agg #[.int .i64 r1, .int .i64 r2, .int .i64 r3, v3_]) ∧ Kd.R (Kd.int .i64) 3 w' w.heap.size (fun _ => True) v3_ r4 ∧ Below w.heap.size w w' := by
 have hu28 := Try.underlying28
 have HR0_3 := mk hr0_3
 have HC0_3 := mk hc0_3
 clear hr0_3 hc0_3
 have HB := mk (Below.refl w.heap.size w)
 have H : ((spec_copyInts.f l0_3).bind fun tz0 => (some (a0_0, a0_1, a0_2, tz0))) = some (r1, r2, r3, r4) := h
 clear h
 replace H := Option.bind_eq_some_iff.mp H
 obtain ⟨tz0, A20, H⟩ := H
 replace H : (some (a0_0, a0_1, a0_2, tz0)) = some (r1, r2, r3, r4) := H
 have A2 := mk A20
 clear A20
 simp only [Option.some.injEq, Prod.mk.injEq] at H
 obtain ⟨rfl, rfl, rfl, rfl⟩ := H
 go_enter Try.func40, Try.ntmps40
 try go_wp2_with (first | ((with_reducible refine gate_dst (N := 1) rfl ?_); refine box_event (by rfl) (N := 1) (by rfl) (cs := #[.int .i64 a0_0, .int .i64 a0_1, .int .i64 a0_2, .slice A0_3 l0_3.length c0_3]) (t := 28) (by go_simp; done) ?_; intro gbz1 hg w3 hbox hb; replace HB := mk (below_step HB.out hb); have BKz0 := mk (hbox); clear hb hbox hg) | ((with_reducible refine gate_dst (N := 2) rfl ?_); refine box_event (by rfl) (N := 2) (by rfl) (cs := #[.int .i64 0, .int .i64 0, .int .i64 0, .slice none 0 0]) (t := 28) (by go_simp; done) ?_; intro gbz0 hg w4 hbox hb; have BKz1 := mk (hbox); have GEz0 := mk ((by rw [hg]; exact (below_size HB.out) : w.heap.size ≤ gbz0)); replace HB := mk (below_step HB.out hb); have NBz0 := mk ((by rw [hg]; exact Nat.ne_of_lt (blk_lt BKz0.out) : gbz1 ≠ gbz0)); have NBz1 := mk ((by rw [hg]; exact Nat.ne_of_gt (blk_lt BKz0.out) : gbz0 ≠ gbz1)); replace BKz0 := mk (blk_below BKz0.out hb); clear hb hbox hg))
 have n0_ := mk (blk_drew BKz0.out)
 have n1_ := mk (blk_drew BKz1.out)
 have n2_ := mk (below_drew1 HB.out)
 clear BKz0 BKz1 HB
 revert n0_ n1_ n2_; intro BKz0 BKz1 HB
 refine start_ (n := 11) (S := fun w' => w'.cell? ⟨gbz1, 0, none⟩ = some (.int .i64 a0_0) ∧ w'.cell? ⟨gbz1, 1, none⟩ = some (.int .i64 a0_1) ∧ w'.cell? ⟨gbz1, 2, none⟩ = some (.int .i64 a0_2) ∧ w'.cell? ⟨gbz1, 3, none⟩ = some (.slice A0_3 l0_3.length c0_3)) (ds := []) #[false, false, false, false, false, false, false, false, false, false, false] (by kernel_rfl) rfl rfl ⟨(blk_cell BKz0.out 0).trans rfl, (blk_cell BKz0.out 1).trans rfl, (blk_cell BKz0.out 2).trans rfl, (blk_cell BKz0.out 3).trans rfl⟩ (fun hHeld => ?_); refine with_tabW spec_copyImage.tab1 spec_copyImage.bits1 (fun HT_ HW_ => ?_)
 generalize w4.drew = w5 at BKz0 BKz1 HB hHeld ⊢
 refine pure_ (i := 0) (N := some 3) (v := ?_) (a' := ?_) #[true, false, false, false, false, false, false, false, false, false, false] rfl rfl (any_of HT_.out (by kernel_rfl)) (fun _ _ _ h => h) (Or.inl ⟨by rfl, ?_⟩) ?_ ?_
 rotate_left
 ·intro w'
  go_simp
  with_reducible rfl
 rotate_left
 ·simp only [Act.put, List.setIfInBounds_toArray, List.set_cons_zero, List.set_cons_succ, i64_w, i32_w]
  rfl
 refine pure_ (i := 2) (N := some 5) (v := ?_) (a' := ?_) #[true, false, true, false, false, false, false, false, false, false, false] rfl rfl (any_of HT_.out (by kernel_rfl)) (fun _ _ _ h => h) (Or.inl ⟨by rfl, ?_⟩) ?_ ?_
 rotate_left
 ·intro w'
  go_simp
  with_reducible rfl
 rotate_left
 ·simp only [Act.put, List.setIfInBounds_toArray, List.set_cons_zero, List.set_cons_succ, i64_w, i32_w]
  rfl
 refine pure_ (i := 4) (N := some 7) (v := ?_) (a' := ?_) #[true, false, true, false, true, false, false, false, false, false, false] rfl rfl (any_of HT_.out (by kernel_rfl)) (fun _ _ _ h => h) (Or.inl ⟨by rfl, ?_⟩) ?_ ?_
 rotate_left
 ·intro w'
  go_simp
  with_reducible rfl
 rotate_left
 ·simp only [Act.put, List.setIfInBounds_toArray, List.set_cons_zero, List.set_cons_succ, i64_w, i32_w]
  rfl
 refine pure_ (i := 6) (N := some 9) (v := ?_) (a' := ?_) #[true, false, true, false, true, false, true, false, false, false, false] rfl rfl (any_of HT_.out (by kernel_rfl)) (fun _ _ _ h => h) (Or.inl ⟨by rfl, ?_⟩) ?_ ?_
 rotate_left
 ·intro w'
  go_simp
  with_reducible rfl
 rotate_left
 ·simp only [Act.put, List.setIfInBounds_toArray, List.set_cons_zero, List.set_cons_succ, i64_w, i32_w]
  rfl
 refine take_ (i := 1) (N := some 4) (v := ?_) (a' := ?_) #[true, true, true, false, true, false, true, false, false, false, false] rfl rfl (take_ofW HT_.out HW_.out (by kernel_rfl)) (fun _ _ _ h => h) (Or.inl ⟨by rfl, ?_⟩) hHeld ?_ ?_
 rotate_left
 ·rintro w' ⟨s0, s1, s2, s3⟩
  go_simp
  with_reducible rfl
 rotate_left
 ·simp only [Act.put, List.setIfInBounds_toArray, List.set_cons_zero, List.set_cons_succ, i64_w, i32_w]
  rfl
 refine take_ (i := 3) (N := some 6) (v := ?_) (a' := ?_) #[true, true, true, true, true, false, true, false, false, false, false] rfl rfl (take_ofW HT_.out HW_.out (by kernel_rfl)) (fun _ _ _ h => h) (Or.inl ⟨by rfl, ?_⟩) hHeld ?_ ?_
 rotate_left
 ·rintro w' ⟨s0, s1, s2, s3⟩
  go_simp
  with_reducible rfl
 rotate_left
 ·simp only [Act.put, List.setIfInBounds_toArray, List.set_cons_zero, List.set_cons_succ, i64_w, i32_w]
  rfl
 refine take_ (i := 5) (N := some 8) (v := ?_) (a' := ?_) #[true, true, true, true, true, true, true, false, false, false, false] rfl rfl (take_ofW HT_.out HW_.out (by kernel_rfl)) (fun _ _ _ h => h) (Or.inl ⟨by rfl, ?_⟩) hHeld ?_ ?_
 rotate_left
 ·rintro w' ⟨s0, s1, s2, s3⟩
  go_simp
  with_reducible rfl
 rotate_left
 ·simp only [Act.put, List.setIfInBounds_toArray, List.set_cons_zero, List.set_cons_succ, i64_w, i32_w]
  rfl
 refine take_ (i := 7) (N := some 10) (v := ?_) (a' := ?_) #[true, true, true, true, true, true, true, true, false, false, false] rfl rfl (take_ofW HT_.out HW_.out (by kernel_rfl)) (fun _ _ _ h => h) (Or.inl ⟨by rfl, ?_⟩) hHeld ?_ ?_
 rotate_left
 ·rintro w' ⟨s0, s1, s2, s3⟩
  go_simp
  with_reducible rfl
 rotate_left
 ·simp only [Act.put, List.setIfInBounds_toArray, List.set_cons_zero, List.set_cons_succ, i64_w, i32_w]
  rfl
 refine one_ (i := 8) (N := some 11) #[true, true, true, true, true, true, true, true, true, false, false] rfl rfl (one_of HT_.out (by kernel_rfl)) (by decide) (fun K hK => ?_)
 refine goes_ Try.func71 (by kernel_rfl) rfl #[.slice A0_3 l0_3.length c0_3] (by rfl) rfl rfl (by (try simp only [List.map_toArray, List.map_cons, List.map_nil]); rfl) ?_
 with_reducible refine (spec_copyInts.calls _ _ l0_3 tz0 _ ?side1 ?side2 A2.out).mono ?_
 (case side1 => repeat (exact (Kd.C_below HR0_3.out HB.out)))
 (case side2 => exact HC0_3.out)
 rintro e w6 ⟨vz0, rfl, ho0, hb⟩
 refine ⟨_, rfl, ?_⟩
 have n0_ := mk (Kd.R_lower ho0 (below_size HB.out))
 have n1_ := mk (blk_below BKz0.out hb)
 have n2_ := mk (blk_below BKz1.out hb)
 have n3_ := mk (below_step HB.out hb)
 clear BKz0 BKz1 HB
 revert n0_ n1_ n2_ n3_; intro HOz0 BKz0 BKz1 HB
 (try clear hb)
 (try clear ho0)
 obtain ⟨Ao7, co7, eo7⟩ := Kd.R_slice HOz0.out
 (subst eo7)
 refine hK.out _ _ ⟨(blk_cell BKz0.out 0).trans rfl, (blk_cell BKz0.out 1).trans rfl, (blk_cell BKz0.out 2).trans rfl, (blk_cell BKz0.out 3).trans rfl⟩ (fun hHeld => ?_)
 clear hK K
 refine norm_ (a' := ?_) ?_ ?_
 rotate_left
 ·show Act.put _ (some 11) _ = _
  simp only [Act.put, List.setIfInBounds_toArray, List.set_cons_zero, List.set_cons_succ, i64_w, i32_w]
  rfl
 refine pure_ (i := 9) (N := some 12) (v := ?_) (a' := ?_) #[true, true, true, true, true, true, true, true, true, true, false] rfl rfl (any_of HT_.out (by kernel_rfl)) (fun _ _ _ h => h) (Or.inl ⟨by rfl, ?_⟩) ?_ ?_
 rotate_left
 ·intro w'
  go_simp
  with_reducible rfl
 rotate_left
 ·simp only [Act.put, List.setIfInBounds_toArray, List.set_cons_zero, List.set_cons_succ, i64_w, i32_w]
  rfl
 refine one_ (i := 10) (N := none) #[true, true, true, true, true, true, true, true, true, true, true] rfl rfl (one_of HT_.out (by kernel_rfl)) (by decide) (fun K hK => ?_)
 have hs8 : w6.cell? ⟨gbz0, 0, none⟩ = some (.int .i64 0) := (blk_cell BKz1.out 0).trans rfl
 have hfs8 := blk_frozen BKz1.out 0
 have hns8_0 := NBz0.out
 have hms8_0 := NBz1.out
 have hs9 : w6.cell? ⟨gbz0, 1, none⟩ = some (.int .i64 0) := (blk_cell BKz1.out 1).trans rfl
 have hfs9 := blk_frozen BKz1.out 1
 have hns9_0 := NBz0.out
 have hms9_0 := NBz1.out
 have hs10 : w6.cell? ⟨gbz0, 2, none⟩ = some (.int .i64 0) := (blk_cell BKz1.out 2).trans rfl
 have hfs10 := blk_frozen BKz1.out 2
 have hns10_0 := NBz0.out
 have hms10_0 := NBz1.out
 have hs11 : w6.cell? ⟨gbz0, 3, none⟩ = some (.slice none 0 0) := (blk_cell BKz1.out 3).trans rfl
 have hfs11 := blk_frozen BKz1.out 3
 have hns11_0 := NBz0.out
 have hms11_0 := NBz1.out
 refine skip_ (w1 := ?_) (by rfl) rfl ?_ ?_
 rotate_left
 ·go_simp
  rfl
 refine hK.out _ _ ⟨((cell_far (p := ⟨gbz0, _, none⟩) NBz0.out _).trans (((cell_far (p := ⟨gbz0, _, none⟩) NBz0.out _).trans (((cell_far (p := ⟨gbz0, _, none⟩) NBz0.out _).trans (((cell_far (p := ⟨gbz0, _, none⟩) NBz0.out _).trans hHeld.1))))))), ((cell_far (p := ⟨gbz0, _, none⟩) NBz0.out _).trans (((cell_far (p := ⟨gbz0, _, none⟩) NBz0.out _).trans (((cell_far (p := ⟨gbz0, _, none⟩) NBz0.out _).trans (((cell_far (p := ⟨gbz0, _, none⟩) NBz0.out _).trans hHeld.2.1))))))), ((cell_far (p := ⟨gbz0, _, none⟩) NBz0.out _).trans (((cell_far (p := ⟨gbz0, _, none⟩) NBz0.out _).trans (((cell_far (p := ⟨gbz0, _, none⟩) NBz0.out _).trans (((cell_far (p := ⟨gbz0, _, none⟩) NBz0.out _).trans hHeld.2.2.1))))))), ((cell_far (p := ⟨gbz0, _, none⟩) NBz0.out _).trans (((cell_far (p := ⟨gbz0, _, none⟩) NBz0.out _).trans (((cell_far (p := ⟨gbz0, _, none⟩) NBz0.out _).trans (((cell_far (p := ⟨gbz0, _, none⟩) NBz0.out _).trans hHeld.2.2.2)))))))⟩ (fun hHeld => ?_)
 clear hK K
 refine done_ (done_of HT_.out (by kernel_rfl)) ?_
 try go_wp2
 refine bodyPost_ret (results_cell_row rfl _ _ gbz0 28 #[.int .i64 a0_0, .int .i64 a0_1, .int .i64 a0_2, .slice Ao7 tz0.length co7] (0, 0) _ rfl (by refine blk_put (cs := #[.int .i64 a0_0, .int .i64 a0_1, .int .i64 a0_2, .slice none 0 0]) ?_ 3 _ rfl; refine blk_put (cs := #[.int .i64 a0_0, .int .i64 a0_1, .int .i64 0, .slice none 0 0]) ?_ 2 _ rfl; refine blk_put (cs := #[.int .i64 a0_0, .int .i64 0, .int .i64 0, .slice none 0 0]) ?_ 1 _ rfl; refine blk_put (cs := #[.int .i64 0, .int .i64 0, .int .i64 0, .slice none 0 0]) ?_ 0 _ rfl; (with_reducible repeat (first | refine blk_drewN ?_ _ | refine blk_drew ?_ | refine blk_alloc ?_ _)); exact BKz1.out) Try.underlying28 rfl (by kernel_rfl)) rfl ?_
 exact ⟨_, by rfl, by (with_reducible repeat (first | apply Kd.R_alloc | apply Kd.R_drewN | apply Kd.R_drew)); exact Kd.R_mono (Kd.R_far (p := ⟨gbz0, 3, none⟩) (Kd.R_far (p := ⟨gbz0, 2, none⟩) (Kd.R_far (p := ⟨gbz0, 1, none⟩) (Kd.R_far (p := ⟨gbz0, 0, none⟩) (Kd.R_types HOz0.out BKz1.out (by decide)) (fun _ hk => hk.2) (.int .i64 a0_0)) (fun _ hk => hk.2) (.int .i64 a0_1)) (fun _ hk => hk.2) (.int .i64 a0_2)) (fun _ hk => hk.2) (.slice Ao7 tz0.length co7)) (fun _ hk => trivial), by repeat (with_reducible first | exact HB.out | refine below_set ?_ GEz0.out)⟩


def spec_setPixel.l0 : Nat → Int → Int → List Int → Int → Int → Int → Int → List Int → Option (List Int)
 | 0, _, _, _, _, _, _, _, _ => none
 | k + 1, x1, x2, x3, x8, xz2, xz4, xz1, xz3 => if x8 < xz1 then (if 0 ≤ x8 then (if x8 < (x3.length : Int) then (if 0 ≤ (wrap64 ((wrap64 ((wrap64 ((wrap64 (x2 * xz2)) + x1)) * xz1)) + x8)) then (if (wrap64 ((wrap64 ((wrap64 ((wrap64 (x2 * xz2)) + x1)) * xz1)) + x8)) < (xz3.length : Int) then (spec_setPixel.l0 k x1 x2 x3 (wrap64 (x8 + 1)) xz2 xz4 xz1 (xz3.set ((wrap64 ((wrap64 ((wrap64 ((wrap64 (x2 * xz2)) + x1)) * xz1)) + x8)) : Int).toNat (rd x3 x8))) else none) else none) else none) else none) else (some xz3)
def spec_setPixel.f (k : Nat) (a0_0 : Int) (a0_1 : Int) (a0_2 : Int) (l0_3 : List Int) (a1 : Int) (a2 : Int) (l3 : List Int) : Option (List Int) := spec_setPixel.l0 k a1 a2 l3 0 a0_0 a0_1 a0_2 l0_3
theorem spec_setPixel.mono_l : ∀ k, (∀ y0 y1 y2 y3 y4 y5 y6 y7, LeO (spec_setPixel.l0 k y0 y1 y2 y3 y4 y5 y6 y7) (spec_setPixel.l0 (k + 1) y0 y1 y2 y3 y4 y5 y6 y7))
 | 0 => fun _ _ _ _ _ _ _ _ r h => by simp [spec_setPixel.l0] at h
 | k + 1 => by
  have ih0 := spec_setPixel.mono_l k
  ·intro y0 y1 y2 y3 y4 y5 y6 y7
   unfold spec_setPixel.l0
   repeat' first | (with_reducible exact ih0 _ _ _ _ _ _ _ _) | (with_reducible exact LeO.refl _) | (with_reducible refine LeO.ite ?_ ?_)
theorem spec_setPixel.mono : ∀ a0 a1 a2 a3 a4 a5 a6 k, LeO (spec_setPixel.f k a0 a1 a2 a3 a4 a5 a6) (spec_setPixel.f (k + 1) a0 a1 a2 a3 a4 a5 a6) := by
 intro a0 a1 a2 a3 a4 a5 a6 k
 have ih0 := spec_setPixel.mono_l k
 unfold spec_setPixel.f
 repeat' (with_reducible exact ih0 _ _ _ _ _ _ _ _)
def spec_setPixel.T4 : Bool × List (List Nat × List Nat) := (true, [([], []), ([0], [0]), ([], []), ([], []), ([3], [3]), ([2, 4], [2, 4]), ([], []), ([5, 6], [5, 6]), ([], []), ([8], [8]), ([7, 9], [7, 9]), ([], []), ([10, 11], [10, 11]), ([], []), ([], []), ([13, 14], [13, 14]), ([15], [15]), ([1, 12, 0, 1, 2, 3, 4, 5, 6, 7, 8, 9, 10, 11, 12, 13, 14, 15, 16], [1, 12]), ([17, 16, 0, 1, 2, 3, 4, 5, 6, 7, 8, 9, 10, 11, 12, 13, 14, 15, 16], [16, 17])])
def spec_setPixel.B4 : List Nat := [0, 1, 0, 0, 8, 28, 0, 124, 0, 256, 1020, 0, 4092, 0, 0, 24576, 57344, 131071, 262143]
theorem spec_setPixel.tab4 : rtab .any (opsOf Try.f94 4) = spec_setPixel.T4 := by kernel_rfl
theorem spec_setPixel.bits4 : waitsOk spec_setPixel.T4.2 spec_setPixel.B4 = true := by kernel_rfl
set_option maxHeartbeats 8000000 in
set_option maxRecDepth 100000 in
theorem spec_setPixel.calls (k : Nat) (a0_0 : Int) (a0_1 : Int) (a0_2 : Int) (P0_3_ : Nat → Prop) (u9000_ : Value) (l0_3 : List Int) (a1 : Int) (a2 : Int) (A3 : Option Addr) (c3 : Nat) (l3 : List Int) (r : List Int) (w0 w : World) (hB : Below w0.heap.size w0 w) (ho0_3 : Kd.R (Kd.int .i64) 3 w w0.heap.size P0_3_ u9000_ l0_3) (hr3 : ∀ W_, Kept w W_ (fun k_ => P0_3_ k_) → Kd.C (Kd.int .i64) W_ A3 l3.length l3) (hc3 : l3.length ≤ c3) (h : spec_setPixel.f k a0_0 a0_1 a0_2 l0_3 a1 a2 l3 = some r) :
  Calls Try.prog 94 #[.agg #[.int .i64 a0_0, .int .i64 a0_1, .int .i64 a0_2, u9000_], .int .i64 a1, .int .i64 a2, .slice A3 l3.length c3] w fun e w' => e = .returned (.tuple #[]) ∧ Kd.R (Kd.int .i64) 3 w' w0.heap.size (fun k_ => (P0_3_ k_ ∨ w.heap.size ≤ k_)) u9000_ r ∧ Below w0.heap.size w0 w' ∧ Kept w w' (fun k_ => P0_3_ k_) := by
 have HO0_3 := mk (show Kd.R (Kd.int .i64) 3 w w0.heap.size (fun k_ => (P0_3_ k_ ∨ w.heap.size ≤ k_)) u9000_ l0_3 from Kd.R_mono ho0_3 (fun k_ hk => (.inl hk)))
 have HR3 := mk hr3
 clear hr3 hc3
 have HK := mk (Kept.refl w (fun k_ => P0_3_ k_))
 have HB := mk hB
 clear hB
 have H : (spec_setPixel.l0 k a1 a2 l3 0 a0_0 a0_1 a0_2 l0_3) = some r := h
 clear h
 have H' := mk H
 clear H
 obtain ⟨Ao5, co5, eo5⟩ := Kd.R_slice HO0_3.out
 subst eo5
 go_enter Try.func94, Try.ntmps94
 go_wp2_with (first | ((with_reducible refine gate_dst (N := 4) rfl ?_); refine box_event (by rfl) (N := 4) (by rfl) (cs := #[.int .i64 a0_0, .int .i64 a0_1, .int .i64 a0_2, .slice Ao5 l0_3.length co5]) (t := 28) (by go_simp; done) ?_; intro gbz0 hg w6 hbox hb; replace HO0_3 := mk (Kd.R_below HO0_3.out hb); replace HK := mk (Kept.below (S := (fun k_ => P0_3_ k_)) HK.out hb); replace HB := mk (below_step HB.out hb); have BKz0 := mk (hbox); clear hb hbox hg))
 go_loopg [8] k (fun kq v8 w' => ∃ (x8_1 : Int) (xz0 : List Int), v8 = .int .i64 x8_1 ∧ Aside0 (spec_setPixel.l0 kq a1 a2 l3 x8_1 a0_0 a0_1 a0_2 xz0 = some r) ∧ Aside0 (kq ≤ k) ∧ Aside0 (Kd.R (Kd.int .i64) 3 w' w0.heap.size (fun k_ => (P0_3_ k_ ∨ w.heap.size ≤ k_)) (.slice Ao5 l0_3.length co5) xz0) ∧ Aside0 (w'.heap[gbz0]? = some (.cells #[.int .i64 a0_0, .int .i64 a0_1, .int .i64 a0_2, (.slice Ao5 l0_3.length co5)] 28 (0, 0))) ∧ Aside0 (Kept w w' (fun k_ => P0_3_ k_)) ∧ Aside0 (Below w0.heap.size w0 w'))
 case atStart => exact ⟨(0), (l0_3), (by rfl), H', ⟨Nat.le_refl _⟩, ⟨by (with_reducible repeat (first | apply Kd.R_alloc | apply Kd.R_drewN | apply Kd.R_drew)); exact HO0_3.out⟩, ⟨by (with_reducible repeat (first | refine blk_drewN ?_ _ | refine blk_drew ?_ | refine blk_alloc ?_ _)); exact BKz0.out⟩, ⟨by exact HK.out⟩, ⟨by exact HB.out⟩⟩
 case round =>
  clear H'
  try clear p2
  try clear c3
  obtain ⟨x8_1, xz0, rfl, HA, HK1, HOz0, BKz0, HK, HB⟩ := hrel
  have hl95002003_1 := (Kd.R_reads' HOz0.out).1
  rw [hl95002003_1] at HOz0
  (try simp only [hl95002003_1])
  (try simp only [hl95002003_1] at BKz0)
  cases gk with
  | zero => exact absurd HA.out (by simp [spec_setPixel.l0])
  | succ k1 =>
   have H := HA.out
   clear HA
   simp only [spec_setPixel.l0] at H
   by_cases c7 : x8_1 < a0_2
   ·rw [if_pos c7] at H
    have c7b0 : decide (x8_1 < a0_2) = true := decide_eq_true c7
    clear c7
    by_cases c8 : 0 ≤ x8_1
    ·rw [if_pos c8] at H
     have c8b0 : decide (0 ≤ x8_1) = true := decide_eq_true c8
     clear c8
     by_cases c9 : x8_1 < (l3.length : Int)
     ·rw [if_pos c9] at H
      have c9b0 : decide (x8_1 < (l3.length : Int)) = true := decide_eq_true c9
      clear c9
      obtain ⟨ji10, hji10⟩ : ∃ j_ : Int, (wrap64 ((wrap64 ((wrap64 ((wrap64 (a2 * a0_0)) + a1)) * a0_2)) + x8_1)) = j_ := ⟨_, rfl⟩
      replace H : (if 0 ≤ ji10 then (if ji10 < (xz0.length : Int) then (spec_setPixel.l0 k1 a1 a2 l3 (wrap64 (x8_1 + 1)) a0_0 a0_1 a0_2 (xz0.set (ji10 : Int).toNat (rd l3 x8_1))) else none) else none) = some r := by (rw [hji10] at H; exact H)
      have hji10w : (IntKind.i64.wrap ((wrap64 ((wrap64 ((wrap64 (a2 * a0_0)) + a1)) * a0_2)) + x8_1)) = ji10 := (i64_w _).trans hji10
      by_cases c11 : 0 ≤ (ji10)
      ·rw [if_pos c11] at H
       have c11b0 : decide (0 ≤ ji10) = true := decide_eq_true c11
       clear c11
       by_cases c12 : ji10 < (xz0.length : Int)
       ·rw [if_pos c12] at H
        have c12b0 : decide (ji10 < (xz0.length : Int)) = true := decide_eq_true c12
        clear c12
        obtain ⟨yz0, hyz0⟩ : ∃ y_ : List Int, y_ = (xz0.set (ji10 : Int).toNat (rd l3 x8_1)) := ⟨_, rfl⟩
        replace H : (spec_setPixel.l0 k1 a1 a2 l3 (wrap64 (x8_1 + 1)) a0_0 a0_1 a0_2 yz0) = some r := by (rw [hyz0]; with_reducible exact H)
        have Nyz0 := mk hyz0
        clear hyz0
        have H' := mk H
        clear H
        have hcz14_2 : wr.cell? ⟨gbz0, 2, none⟩ = some (.int .i64 a0_2) := (blk_cell BKz0.out 2).trans rfl
        have hcz14_3 : wr.cell? ⟨gbz0, 3, none⟩ = some (.slice Ao5 xz0.length co5) := (blk_cell BKz0.out 3).trans rfl
        try go_wp2
        have n0_ := mk (Kd.R_drew HOz0.out)
        have n1_ := mk (blk_drew BKz0.out)
        have n2_ := mk (Kept.drew HK.out)
        have n3_ := mk (below_drew1 HB.out)
        clear HOz0 BKz0 HK HB
        revert n0_ n1_ n2_ n3_; intro HOz0 BKz0 HK HB
        have p95002 : 0 ≤ (x8_1 : Int) := of_decide_eq_true (by (with_reducible assumption))
        have q95002 : x8_1 < (l3.length : Int) := of_decide_eq_true (by (with_reducible assumption))
        obtain ⟨ad95002, e95002, hx95002_0⟩ := Kd.at_int (Kd.C_kept_now HR3.out HK.out) x8_1 p95002 q95002
        cases e95002
        replace p95002 := eq_true p95002
        replace q95002 := eq_true q95002
        have p13 : 0 ≤ (ji10 : Int) := of_decide_eq_true (by (with_reducible assumption))
        have q13 : (ji10 : Int) < ((xz0.length : Int) : Int) := of_decide_eq_true (by (with_reducible assumption))
        obtain ⟨go13, co13, eo13, gb13, gl13, cl13, HG13⟩ := Kd.R_form HOz0.out (by omega)
        (cases eo13)
        have GB13 := mk gb13
        have GG13 := mk HG13
        clear gb13 gl13 HG13
        have HMgo13 := mk (show (P0_3_ go13 ∨ w.heap.size ≤ go13) from (HOz0.out.1 _ rfl))
        obtain ⟨hx13_0, hf13_0⟩ := Kd.R_celln 0 HOz0.out (ji10 : Int) p13 q13
        replace p13 := eq_true p13
        replace q13 := eq_true q13
        have HP16 := Kd.R_putn HOz0.out (ji10 : Int) (rd l3 x8_1)
        rw [← Nyz0.out] at HP16
        have HQ16 := mk HP16
        clear HP16
        refine start_ (n := 19) (S := fun w' => w'.cell? ⟨gbz0, 0, none⟩ = some (.int .i64 a0_0) ∧ w'.cell? ⟨gbz0, 1, none⟩ = some (.int .i64 a0_1) ∧ w'.cell? ⟨gbz0, 2, none⟩ = some (.int .i64 a0_2) ∧ w'.cell? ⟨gbz0, 3, none⟩ = some (.slice (some ⟨go13, 0, none⟩) xz0.length co5) ∧ w'.cell? (ad95002.add (x8_1).toNat) = some (.int .i64 (rd l3 x8_1))) (ds := [18]) #[false, false, false, false, false, false, false, false, false, false, false, false, false, false, false, false, false, false, false] (by kernel_rfl) rfl rfl ⟨(blk_cell BKz0.out 0).trans rfl, (blk_cell BKz0.out 1).trans rfl, (blk_cell BKz0.out 2).trans rfl, (blk_cell BKz0.out 3).trans rfl, (Kd.foot_int (HR3.out _ HK.out) x8_1 (of_eq_true p95002) (of_eq_true q95002))⟩ (fun hHeld => ?_); refine with_tabW spec_setPixel.tab4 spec_setPixel.bits4 (fun HT_ HW_ => ?_)
        generalize wr.drew = w15 at HOz0 BKz0 HK HB GG13 HQ16 hf13_0 hx13_0 hx95002_0 hHeld ⊢
        refine pure_ (i := 0) (N := some 15) (v := ?_) (a' := ?_) #[true, false, false, false, false, false, false, false, false, false, false, false, false, false, false, false, false, false, false] rfl rfl (any_of HT_.out (by kernel_rfl)) (fun _ _ _ h => h) (Or.inl ⟨by rfl, ?_⟩) ?_ ?_
        rotate_left
        ·intro w'
         go_simp
         with_reducible rfl
        rotate_left
        ·simp only [Act.put, List.setIfInBounds_toArray, List.set_cons_zero, List.set_cons_succ, i64_w, i32_w]
         rfl
        refine pure_ (i := 2) (N := some 17) (v := ?_) (a' := ?_) #[true, false, true, false, false, false, false, false, false, false, false, false, false, false, false, false, false, false, false] rfl rfl (any_of HT_.out (by kernel_rfl)) (fun _ _ _ h => h) (Or.inl ⟨by rfl, ?_⟩) ?_ ?_
        rotate_left
        ·intro w'
         go_simp
         with_reducible rfl
        rotate_left
        ·simp only [Act.put, List.setIfInBounds_toArray, List.set_cons_zero, List.set_cons_succ, i64_w, i32_w]
         rfl
        refine pure_ (i := 3) (N := some 18) (v := ?_) (a' := ?_) #[true, false, true, true, false, false, false, false, false, false, false, false, false, false, false, false, false, false, false] rfl rfl (any_of HT_.out (by kernel_rfl)) (fun _ _ _ h => h) (Or.inl ⟨by rfl, ?_⟩) ?_ ?_
        rotate_left
        ·intro w'
         go_simp
         with_reducible rfl
        rotate_left
        ·simp only [Act.put, List.setIfInBounds_toArray, List.set_cons_zero, List.set_cons_succ, i64_w, i32_w]
         rfl
        refine pure_ (i := 6) (N := some 21) (v := ?_) (a' := ?_) #[true, false, true, true, false, false, true, false, false, false, false, false, false, false, false, false, false, false, false] rfl rfl (any_of HT_.out (by kernel_rfl)) (fun _ _ _ h => h) (Or.inl ⟨by rfl, ?_⟩) ?_ ?_
        rotate_left
        ·intro w'
         go_simp
         with_reducible rfl
        rotate_left
        ·simp only [Act.put, List.setIfInBounds_toArray, List.set_cons_zero, List.set_cons_succ, i64_w, i32_w]
         rfl
        refine pure_ (i := 8) (N := some 23) (v := ?_) (a' := ?_) #[true, false, true, true, false, false, true, false, true, false, false, false, false, false, false, false, false, false, false] rfl rfl (any_of HT_.out (by kernel_rfl)) (fun _ _ _ h => h) (Or.inl ⟨by rfl, ?_⟩) ?_ ?_
        rotate_left
        ·intro w'
         go_simp
         with_reducible rfl
        rotate_left
        ·simp only [Act.put, List.setIfInBounds_toArray, List.set_cons_zero, List.set_cons_succ, i64_w, i32_w]
         rfl
        refine pure_ (i := 11) (N := some 26) (v := ?_) (a' := ?_) #[true, false, true, true, false, false, true, false, true, false, false, true, false, false, false, false, false, false, false] rfl rfl (any_of HT_.out (by kernel_rfl)) (fun _ _ _ h => h) (Or.inl ⟨by rfl, ?_⟩) ?_ ?_
        rotate_left
        ·intro w'
         go_simp
         with_reducible rfl
        rotate_left
        ·simp only [Act.put, List.setIfInBounds_toArray, List.set_cons_zero, List.set_cons_succ, i64_w, i32_w]
         rfl
        refine pure_ (i := 13) (N := some 28) (v := ?_) (a' := ?_) #[true, false, true, true, false, false, true, false, true, false, false, true, false, true, false, false, false, false, false] rfl rfl (any_of HT_.out (by kernel_rfl)) (fun _ _ _ h => h) (Or.inl ⟨by rfl, ?_⟩) ?_ ?_
        rotate_left
        ·intro w'
         go_simp
         with_reducible rfl
        rotate_left
        ·simp only [Act.put, List.setIfInBounds_toArray, List.set_cons_zero, List.set_cons_succ, i64_w, i32_w]
         rfl
        refine pure_ (i := 14) (N := some 29) (v := ?_) (a' := ?_) #[true, false, true, true, false, false, true, false, true, false, false, true, false, true, true, false, false, false, false] rfl rfl (any_of HT_.out (by kernel_rfl)) (fun _ _ _ h => h) (Or.inl ⟨by rfl, ?_⟩) ?_ ?_
        rotate_left
        ·intro w'
         go_simp
         with_reducible rfl
        rotate_left
        ·simp only [Act.put, List.setIfInBounds_toArray, List.set_cons_zero, List.set_cons_succ, i64_w, i32_w]
         rfl
        refine pure_ (i := 15) (N := some 30) (v := ?_) (a' := ?_) #[true, false, true, true, false, false, true, false, true, false, false, true, false, true, true, true, false, false, false] rfl rfl (any_of HT_.out (by kernel_rfl)) (fun _ _ _ h => h) (Or.inl ⟨by rfl, ?_⟩) ?_ ?_
        rotate_left
        ·intro w'
         go_simp
         with_reducible rfl
        rotate_left
        ·simp only [Act.put, List.setIfInBounds_toArray, List.set_cons_zero, List.set_cons_succ, i64_w, i32_w]
         rfl
        refine take_ (i := 1) (N := some 16) (v := ?_) (a' := ?_) #[true, true, true, true, false, false, true, false, true, false, false, true, false, true, true, true, false, false, false] rfl rfl (take_ofW HT_.out HW_.out (by kernel_rfl)) (fun _ _ _ h => h) (Or.inl ⟨by rfl, ?_⟩) hHeld ?_ ?_
        rotate_left
        ·rintro w' ⟨s0, s1, s2, s3, s4⟩
         go_simp
         with_reducible rfl
        rotate_left
        ·simp only [Act.put, List.setIfInBounds_toArray, List.set_cons_zero, List.set_cons_succ, i64_w, i32_w]
         rfl
        refine take_ (i := 4) (N := some 19) (v := ?_) (a' := ?_) #[true, true, true, true, true, false, true, false, true, false, false, true, false, true, true, true, false, false, false] rfl rfl (take_ofW HT_.out HW_.out (by kernel_rfl)) (fun _ _ _ h => h) (Or.inl ⟨by rfl, ?_⟩) hHeld ?_ ?_
        rotate_left
        ·rintro w' ⟨s0, s1, s2, s3, s4⟩
         go_simp
         with_reducible rfl
        rotate_left
        ·simp only [Act.put, List.setIfInBounds_toArray, List.set_cons_zero, List.set_cons_succ, i64_w, i32_w]
         rfl
        refine pure_ (i := 5) (N := some 20) (v := ?_) (a' := ?_) #[true, true, true, true, true, true, true, false, true, false, false, true, false, true, true, true, false, false, false] rfl rfl (any_of HT_.out (by kernel_rfl)) (fun _ _ _ h => h) (Or.inl ⟨by rfl, ?_⟩) ?_ ?_
        rotate_left
        ·intro w'
         go_simp
         with_reducible rfl
        rotate_left
        ·simp only [Act.put, List.setIfInBounds_toArray, List.set_cons_zero, List.set_cons_succ, i64_w, i32_w]
         rfl
        refine pure_ (i := 7) (N := some 22) (v := ?_) (a' := ?_) #[true, true, true, true, true, true, true, true, true, false, false, true, false, true, true, true, false, false, false] rfl rfl (any_of HT_.out (by kernel_rfl)) (fun _ _ _ h => h) (Or.inl ⟨by rfl, ?_⟩) ?_ ?_
        rotate_left
        ·intro w'
         go_simp
         with_reducible rfl
        rotate_left
        ·simp only [Act.put, List.setIfInBounds_toArray, List.set_cons_zero, List.set_cons_succ, i64_w, i32_w]
         rfl
        refine take_ (i := 9) (N := some 24) (v := ?_) (a' := ?_) #[true, true, true, true, true, true, true, true, true, true, false, true, false, true, true, true, false, false, false] rfl rfl (take_ofW HT_.out HW_.out (by kernel_rfl)) (fun _ _ _ h => h) (Or.inl ⟨by rfl, ?_⟩) hHeld ?_ ?_
        rotate_left
        ·rintro w' ⟨s0, s1, s2, s3, s4⟩
         go_simp
         with_reducible rfl
        rotate_left
        ·simp only [Act.put, List.setIfInBounds_toArray, List.set_cons_zero, List.set_cons_succ, i64_w, i32_w]
         rfl
        refine pure_ (i := 10) (N := some 25) (v := ?_) (a' := ?_) #[true, true, true, true, true, true, true, true, true, true, true, true, false, true, true, true, false, false, false] rfl rfl (any_of HT_.out (by kernel_rfl)) (fun _ _ _ h => h) (Or.inl ⟨by rfl, ?_⟩) ?_ ?_
        rotate_left
        ·intro w'
         go_simp
         with_reducible rfl
        rotate_left
        ·simp only [Act.put, List.setIfInBounds_toArray, List.set_cons_zero, List.set_cons_succ, i64_w, i32_w]
         rfl
        refine pure_ (i := 12) (N := some 27) (v := ?_) (a' := ?_) #[true, true, true, true, true, true, true, true, true, true, true, true, true, true, true, true, false, false, false] rfl rfl (any_of HT_.out (by kernel_rfl)) (fun _ _ _ h => h) (Or.inl ⟨by rfl, ?_⟩) ?_ ?_
        rotate_left
        ·intro w'
         go_simp
         with_reducible rfl
        rotate_left
        ·simp only [Act.put, List.setIfInBounds_toArray, List.set_cons_zero, List.set_cons_succ, i64_w, i32_w]
         rfl
        refine take_ (i := 16) (N := some 31) (v := ?_) (a' := ?_) #[true, true, true, true, true, true, true, true, true, true, true, true, true, true, true, true, true, false, false] rfl rfl (take_ofW HT_.out HW_.out (by kernel_rfl)) (fun _ _ _ h => h) (Or.inl ⟨by rfl, ?_⟩) hHeld ?_ ?_
        rotate_left
        ·rintro w' ⟨s0, s1, s2, s3, s4⟩
         go_simp
         with_reducible rfl
        rotate_left
        ·simp only [Act.put, List.setIfInBounds_toArray, List.set_cons_zero, List.set_cons_succ, i64_w, i32_w]
         rfl
        refine pure_ (i := 17) (N := some 32) (v := ?_) (a' := ?_) #[true, true, true, true, true, true, true, true, true, true, true, true, true, true, true, true, true, true, false] rfl rfl (any_of HT_.out (by kernel_rfl)) (fun _ _ _ h => h) (Or.inl ⟨by rfl, ?_⟩) ?_ ?_
        rotate_left
        ·intro w'
         go_simp
         with_reducible rfl
        rotate_left
        ·simp only [Act.put, List.setIfInBounds_toArray, List.set_cons_zero, List.set_cons_succ, i64_w, i32_w]
         rfl
        refine last_ (i := 18) (N := none) #[true, true, true, true, true, true, true, true, true, true, true, true, true, true, true, true, true, true, true] rfl rfl (one_of HT_.out (by kernel_rfl)) (by decide) (fun K hK => ?_)
        refine skip_ (w1 := ?_) (by rfl) rfl ?_ ?_
        rotate_left
        ·go_simp
         rfl
        refine hK.out _ _ ?_
        clear hK K
        refine done_ (done_of HT_.out (by kernel_rfl)) ?_
        try go_wp2
        (try simp only [← hl95002003_1])
        go_roundg k1
        case measure => have := HK1.out; omega
        case rel => exact ⟨(wrap64 (x8_1 + 1)), (yz0), (by rfl), H', ⟨by have := HK1.out; omega⟩, ⟨by (try simp only [hl95002003_1]); (with_reducible repeat (first | apply Kd.R_alloc | apply Kd.R_drewN | apply Kd.R_drew)); exact HQ16.out⟩, ⟨by (try simp only [hl95002003_1]); refine blk_far ?_ (by have h_ := Kd.R_ne HOz0.out BKz0.out (by decide); intro e_; exact h_ (by rw [e_]; rfl)) _; (with_reducible repeat (first | refine blk_drewN ?_ _ | refine blk_drew ?_ | refine blk_alloc ?_ _)); exact BKz0.out⟩, ⟨by repeat (with_reducible first | exact HK.out | refine Kept.setCell ?_ HMgo13.out _)⟩, ⟨by repeat (with_reducible first | exact HB.out | refine below_set ?_ GB13.out)⟩⟩
       rw [if_neg c12] at H
       exact absurd H (by simp)
      rw [if_neg c11] at H
      exact absurd H (by simp)
     rw [if_neg c9] at H
     exact absurd H (by simp)
    rw [if_neg c8] at H
    exact absurd H (by simp)
   rw [if_neg c7] at H
   have c7b0 : decide (x8_1 < a0_2) = false := decide_eq_false c7
   clear c7
   obtain rfl := Option.some.inj H
   have hcz17_2 : wr.cell? ⟨gbz0, 2, none⟩ = some (.int .i64 a0_2) := (blk_cell BKz0.out 2).trans rfl
   go_wp2
   go_end0
   exact ⟨by rfl, HOz0.out, by exact HB.out, by exact HK.out⟩

end Go.Proofs.Ytgccpcnakkioiaa.Q

namespace Go.Proofs.Ytgccpcnakkioiaa.Q
open Go.RowKit Go.Proofs.YtgccpcnakkioiaaW.PrintWords Go.Proofs.YtgccpcnakkioiaaW.PrintLast Go.Proofs.YtgccpcnakkioiaaW.PrintMore
attribute [local go_sem] max2_int min2_int max_two min_two max_three min_three max_four min_four
set_option linter.unusedVariables false
set_option linter.unusedSimpArgs false
def spec_pixelAt.f (a0_0 : Int) (a0_1 : Int) (a0_2 : Int) (l0_3 : List Int) (a1 : Int) (a2 : Int) : Option (List Int) := if 0 ≤ (wrap64 ((wrap64 ((wrap64 (a2 * a0_0)) + a1)) * a0_2)) then (if (wrap64 ((wrap64 ((wrap64 (a2 * a0_0)) + a1)) * a0_2)) ≤ (wrap64 ((wrap64 ((wrap64 ((wrap64 (a2 * a0_0)) + a1)) * a0_2)) + a0_2)) then (if (wrap64 ((wrap64 ((wrap64 ((wrap64 (a2 * a0_0)) + a1)) * a0_2)) + a0_2)) ≤ (l0_3.length : Int) then ((spec_copyInts.f ((l0_3.take ((wrap64 ((wrap64 ((wrap64 ((wrap64 (a2 * a0_0)) + a1)) * a0_2)) + a0_2)) : Int).toNat).drop ((wrap64 ((wrap64 ((wrap64 (a2 * a0_0)) + a1)) * a0_2)) : Int).toNat)).bind fun tz0 => (some tz0)) else (none)) else (none)) else (none)
set_option maxHeartbeats 8000000 in
set_option maxRecDepth 100000 in
theorem spec_pixelAt.calls (a0_0 : Int) (a0_1 : Int) (a0_2 : Int) (A0_3 : Option Addr) (c0_3 : Nat) (l0_3 : List Int) (a1 : Int) (a2 : Int) (r : List Int) (w : World) (hr0_3 : Kd.C (Kd.int .i64) w A0_3 l0_3.length l0_3) (hc0_3 : l0_3.length ≤ c0_3) (h : spec_pixelAt.f a0_0 a0_1 a0_2 l0_3 a1 a2 = some r) :
  Calls Try.prog 95 #[.agg #[.int .i64 a0_0, .int .i64 a0_1, .int .i64 a0_2, .slice A0_3 l0_3.length c0_3], .int .i64 a1, .int .i64 a2] w fun e w' => ∃ v0_ : Value, e = .returned (v0_) ∧ Kd.R (Kd.int .i64) 3 w' w.heap.size (fun _ => True) v0_ r ∧ Below w.heap.size w w' := by
 have hu28 := Try.underlying28
 have HR0_3 := Aside0.mk hr0_3
 have HC0_3 := Aside0.mk hc0_3
 clear hr0_3 hc0_3
 have HB := Aside0.mk (Below.refl w.heap.size w)
 have H : (if 0 ≤ (wrap64 ((wrap64 ((wrap64 (a2 * a0_0)) + a1)) * a0_2)) then (if (wrap64 ((wrap64 ((wrap64 (a2 * a0_0)) + a1)) * a0_2)) ≤ (wrap64 ((wrap64 ((wrap64 ((wrap64 (a2 * a0_0)) + a1)) * a0_2)) + a0_2)) then (if (wrap64 ((wrap64 ((wrap64 ((wrap64 (a2 * a0_0)) + a1)) * a0_2)) + a0_2)) ≤ (l0_3.length : Int) then ((spec_copyInts.f ((l0_3.take ((wrap64 ((wrap64 ((wrap64 ((wrap64 (a2 * a0_0)) + a1)) * a0_2)) + a0_2)) : Int).toNat).drop ((wrap64 ((wrap64 ((wrap64 (a2 * a0_0)) + a1)) * a0_2)) : Int).toNat)).bind fun tz0 => (some tz0)) else (none)) else (none)) else (none)) = some r := h
 clear h
 obtain ⟨ji4, hji4⟩ : ∃ j_ : Int, (wrap64 ((wrap64 ((wrap64 (a2 * a0_0)) + a1)) * a0_2)) = j_ := ⟨_, rfl⟩
 replace H : (if 0 ≤ (ji4) then (if (ji4) ≤ (wrap64 ((ji4) + a0_2)) then (if (wrap64 ((ji4) + a0_2)) ≤ (l0_3.length : Int) then ((spec_copyInts.f ((l0_3.take ((wrap64 ((ji4) + a0_2)) : Int).toNat).drop ((ji4) : Int).toNat)).bind fun tz0 => (some tz0)) else (none)) else (none)) else (none)) = some r := by first | (rw [hji4] at H; exact H) | (simp only [hji4] at H ⊢; exact H)
 have hji4w : (IntKind.i64.wrap ((wrap64 ((wrap64 (a2 * a0_0)) + a1)) * a0_2)) = ji4 := (i64_w _).trans hji4
 by_cases c5 : 0 ≤ (ji4)
 ·rw [if_pos c5] at H
  have c5b0 := eq_true c5
  have c5b1 : decide (0 ≤ (ji4)) = true := decide_eq_true c5
  clear c5
  by_cases c6 : (ji4) ≤ (wrap64 ((ji4) + a0_2))
  ·rw [if_pos c6] at H
   have c6b0 := eq_true c6
   have c6b1 : decide ((ji4) ≤ (wrap64 ((ji4) + a0_2))) = true := decide_eq_true c6
   by_cases c7 : (wrap64 ((ji4) + a0_2)) ≤ (l0_3.length : Int)
   ·rw [if_pos c7] at H
    have c7b0 := eq_true c7
    have c7b1 : decide ((wrap64 ((ji4) + a0_2)) ≤ (l0_3.length : Int)) = true := decide_eq_true c7
    replace H := Option.bind_eq_some_iff.mp H
    obtain ⟨tz0, A80, H⟩ := H
    replace H : (some tz0) = some r := H
    have A8 := Aside0.mk A80
    clear A80
    obtain rfl := Option.some.inj H
    go_enter Try.func95, Try.ntmps95
    go_wp2_with (first | ((with_reducible refine gate_dst (N := 3) rfl ?_); refine box_event ?hg (N := 3) ?hd (cs := #[.int .i64 a0_0, .int .i64 a0_1, .int .i64 a0_2, .slice A0_3 l0_3.length c0_3]) (t := 28) ?hr ?_; (case hd => rfl); (case hg => rfl); (case hr => first | (go_simp; done) | (go_simp; rfl)); intro gbz0 hg w9 hbox hb; replace HB := Aside0.mk (below_step (by repeat (first | (with_reducible first | exact HB.out | apply below_alloc | apply pw_below_drewN | apply below_drew1) | exact HB.out)) hb); have BKz0 := Aside0.mk (hbox); clear hb hbox hg; have hcz10_0 : w9.cell? ⟨gbz0, 0, none⟩ = some (.int .i64 a0_0) := (blk_cell BKz0.out 0).trans rfl; have hcz10_2 : w9.cell? ⟨gbz0, 2, none⟩ = some (.int .i64 a0_2) := (blk_cell BKz0.out 2).trans rfl; have hcz10_3 : w9.cell? ⟨gbz0, 3, none⟩ = some (.slice A0_3 l0_3.length c0_3) := (blk_cell BKz0.out 3).trans rfl; obtain ⟨i011, hi011, _, hsz11, _⟩ := info_parts info3; obtain ⟨A11, hcut11, hA11, hC11⟩ := print_mid_of (P := Try.prog) (Value.int .i64) 0 22 3 .i64 .i64 Try.underlying22 hi011 hsz11 A0_3 c0_3 l0_3 (ji4) (wrap64 ((ji4) + a0_2)) (of_decide_eq_true (by first | (with_reducible assumption) | assumption)) (by first | omega | exact of_decide_eq_true (by first | (with_reducible assumption) | assumption)) (of_decide_eq_true (by first | (with_reducible assumption) | assumption)) HC0_3.out; have HR96002 := Aside0.mk (Kd.C_of_reads (h1 := fun _ => rfl) (hA11 _ (Kd.reads_of_C HR0_3.out))); have HC96002 := Aside0.mk hC11; clear hA11 hC11 hi011 hsz11) | ((with_reducible refine gate_callee (f := 71) rfl ?_); refine goesL_ (some 25) rfl rfl Try.func71 (by kernel_rfl) rfl #[.slice A11 ((l0_3.take ((wrap64 ((ji4) + a0_2)) : Int).toNat).drop ((ji4) : Int).toNat).length (c0_3 - (ji4).toNat)] rfl (by (try simp only [List.map_toArray, List.map_cons, List.map_nil]); first | done | (rw [show ((l0_3.take ((wrap64 ((ji4) + a0_2)) : Int).toNat).drop ((ji4) : Int).toNat).length = ((wrap64 ((ji4) + a0_2)).toNat - (ji4).toNat) from (by rw [List.length_drop, List.length_take]; have h_ : ((wrap64 ((ji4) + a0_2)) : Int) ≤ (l0_3.length : Int) := of_decide_eq_true (by first | (with_reducible assumption) | assumption); omega)] <;> rfl) | (simp only [hji4]; rfl) | rfl | (simp only [List.length_drop, List.length_take]; rfl)) ?_; (with_reducible refine (spec_copyInts.calls _ _ ((l0_3.take ((wrap64 ((ji4) + a0_2)) : Int).toNat).drop ((ji4) : Int).toNat) tz0 _ ?side1 ?side2 A8.out).mono ?_); (case side1 => repeat (first | exact (Kd.C_below HR96002.out HB.out) | (with_reducible refine Kd.C_alloc ?_ _) | (with_reducible refine Kd.C_drewN ?_ _) | (with_reducible refine Kd.C_drew ?_))); (case side2 => exact HC96002.out); rintro e w12 ⟨vz0, rfl, ho0, hb⟩; refine ⟨_, rfl, ?_⟩; have n0_ := Aside0.mk (Kd.R_lower ho0 (below_size (by repeat (first | (with_reducible first | exact HB.out | apply below_alloc | apply pw_below_drewN | apply below_drew1 | refine below_set ?_ GEz0.out) | exact HB.out)))); have n2_ := Aside0.mk (below_step (by repeat (first | (with_reducible first | exact HB.out | apply below_alloc | apply pw_below_drewN | apply below_drew1 | refine below_set ?_ GEz0.out) | exact HB.out)) hb); clear BKz0; clear HB; have HOz0 := n0_; have HB := n2_; (try clear hb); (try clear hb2); (try clear hk); (try clear hi); (try clear ho0)))
    go_ret
    exact ⟨_, by first | rfl | (simp [errW_none, errW_some] <;> rfl) | (simp only [← hji4]; first | rfl | (simp [errW_none, errW_some] <;> rfl)) | (simp [*, errW_none, errW_some] <;> rfl), by (with_reducible repeat (first | apply Kd.R_alloc | apply Kd.R_drewN | apply Kd.R_drew)); exact HOz0.out, by repeat (first | (with_reducible first | exact HB.out | apply below_alloc | apply pw_below_drewN | apply below_drew1 | refine below_set ?_ GEz0.out) | exact HB.out)⟩
   rw [if_neg c7] at H
   exact absurd H (by simp)
  rw [if_neg c6] at H
  exact absurd H (by simp)
 rw [if_neg c5] at H
 exact absurd H (by simp)

end Go.Proofs.Ytgccpcnakkioiaa.Q

namespace Go.Proofs.Ytgccpcnakkioiaa.Q
open Go.RowKit Go.Proofs.YtgccpcnakkioiaaW.PrintWords Go.Proofs.YtgccpcnakkioiaaW.PrintLast Go.Proofs.YtgccpcnakkioiaaW.PrintMore
open Go.Proofs.YtgccpcnakkioiaaW.PrintWords.Aside0 (mk)
attribute [local go_sem] max2_int min2_int max_two min_two max_three min_three max_four min_four
set_option linter.unusedVariables false
set_option linter.unusedSimpArgs false
mutual
def spec_mirror.l0 : Nat → Int → Int → Int → Int → List Int → Int → Int → Int → List Int → Option (Int × Int × Int × List Int)
 | 0, _, _, _, _, _, _, _, _, _ => none
 | k + 1, x4, xz2, xz3, xz7, xz8, xz4, xz5, xz6, xz9 => if x4 < xz3 then (spec_mirror.l1 k x4 0 xz2 xz3 xz7 xz8 xz4 xz5 xz6 xz9) else (some (xz4, xz5, xz6, xz9))
def spec_mirror.l1 : Nat → Int → Int → Int → Int → Int → List Int → Int → Int → Int → List Int → Option (Int × Int × Int × List Int)
 | 0, _, _, _, _, _, _, _, _, _, _ => none
 | k + 1, x4, x5, xz2, xz3, xz7, xz8, xz4, xz5, xz6, xz9 => if x5 < xz2 then ((spec_pixelAt.f xz2 xz3 xz7 xz8 x5 x4).bind fun tz4 => ((spec_setPixel.f k xz4 xz5 xz6 xz9 (wrap64 ((wrap64 (xz2 - 1)) - x5)) x4 tz4).bind fun tz3 => (spec_mirror.l1 k x4 (wrap64 (x5 + 1)) xz2 xz3 xz7 xz8 xz4 xz5 xz6 tz3))) else (spec_mirror.l0 k (wrap64 (x4 + 1)) xz2 xz3 xz7 xz8 xz4 xz5 xz6 xz9)
end
def spec_mirror.f (k : Nat) (a0_0 : Int) (a0_1 : Int) (a0_2 : Int) (l0_3 : List Int) : Option (Int × Int × Int × List Int) := (spec_copyImage.f a0_0 a0_1 a0_2 l0_3).bind fun btz0 => (spec_mirror.l0 k 0 a0_0 a0_1 a0_2 l0_3 btz0.1 btz0.2.1 btz0.2.2.1 btz0.2.2.2)
theorem spec_mirror.mono_l : ∀ k, (∀ y0 y1 y2 y3 y4 y5 y6 y7 y8, LeO (spec_mirror.l0 k y0 y1 y2 y3 y4 y5 y6 y7 y8) (spec_mirror.l0 (k + 1) y0 y1 y2 y3 y4 y5 y6 y7 y8)) ∧ (∀ y0 y1 y2 y3 y4 y5 y6 y7 y8 y9, LeO (spec_mirror.l1 k y0 y1 y2 y3 y4 y5 y6 y7 y8 y9) (spec_mirror.l1 (k + 1) y0 y1 y2 y3 y4 y5 y6 y7 y8 y9))
 | 0 => ⟨fun _ _ _ _ _ _ _ _ _ r h => by simp [spec_mirror.l0] at h, fun _ _ _ _ _ _ _ _ _ _ r h => by simp [spec_mirror.l1] at h⟩
 | k + 1 => by
  obtain ⟨ih0, ih1⟩ := spec_mirror.mono_l k
  refine ⟨?_, ?_⟩
  ·intro y0 y1 y2 y3 y4 y5 y6 y7 y8
   unfold spec_mirror.l0
   repeat' first | (with_reducible exact ih1 _ _ _ _ _ _ _ _ _ _) | (with_reducible exact LeO.refl _) | (with_reducible refine LeO.ite ?_ ?_)
  intro y0 y1 y2 y3 y4 y5 y6 y7 y8 y9
  unfold spec_mirror.l1
  repeat' first | (with_reducible exact ih0 _ _ _ _ _ _ _ _ _) | (with_reducible exact ih1 _ _ _ _ _ _ _ _ _ _) | (with_reducible exact spec_setPixel.mono _ _ _ _ _ _ _ _) | (with_reducible exact LeO.refl _) | (with_reducible refine LeO.ite ?_ ?_) | (with_reducible refine LeO.bind ?_ (fun _ => ?_))
theorem spec_mirror.mono : ∀ a0 a1 a2 a3 k, LeO (spec_mirror.f k a0 a1 a2 a3) (spec_mirror.f (k + 1) a0 a1 a2 a3) := by
 intro a0 a1 a2 a3 k
 obtain ⟨ih0, ih1⟩ := spec_mirror.mono_l k
 unfold spec_mirror.f
 repeat' first | (with_reducible exact ih0 _ _ _ _ _ _ _ _ _) | (with_reducible exact LeO.refl _) | (with_reducible refine LeO.bind ?_ (fun _ => ?_))
def spec_mirror.T8 : Bool × List (List Nat × List Nat) := (true, [([], []), ([], []), ([1], [1]), ([2], [2]), ([], []), ([3, 4], [3, 4]), ([], []), ([], []), ([], []), ([], []), ([7, 8, 9], [7, 8, 9]), ([0, 5, 6, 10, 10], [0, 5, 6, 10])])
def spec_mirror.B8 : List Nat := [0, 0, 2, 6, 0, 30, 0, 0, 0, 0, 896, 2047]
theorem spec_mirror.tab8 : rtab .any (opsOf Try.f72 8) = spec_mirror.T8 := by kernel_rfl
theorem spec_mirror.bits8 : waitsOk spec_mirror.T8.2 spec_mirror.B8 = true := by kernel_rfl
set_option maxHeartbeats 8000000 in
set_option maxRecDepth 100000 in
theorem spec_mirror.calls (k : Nat) (a0_0 : Int) (a0_1 : Int) (a0_2 : Int) (A0_3 : Option Addr) (c0_3 : Nat) (l0_3 : List Int) (r1 : Int) (r2 : Int) (r3 : Int) (r4 : List Int) (w : World) (hr0_3 : Kd.C (Kd.int .i64) w A0_3 l0_3.length l0_3) (hc0_3 : l0_3.length ≤ c0_3) (h : spec_mirror.f k a0_0 a0_1 a0_2 l0_3 = some (r1, r2, r3, r4)) :
  Calls Try.prog 72 #[.agg #[.int .i64 a0_0, .int .i64 a0_1, .int .i64 a0_2, .slice A0_3 l0_3.length c0_3]] w fun e w' => ∃ v3_ : Value, e = .returned (.agg #[.int .i64 r1, .int .i64 r2, .int .i64 r3, v3_]) ∧ Kd.R (Kd.int .i64) 3 w' w.heap.size (fun _ => True) v3_ r4 ∧ Below w.heap.size w w' := by
 have HR0_3 := mk hr0_3
 have HC0_3 := mk hc0_3
 clear hr0_3 hc0_3
 have HB := mk (Below.refl w.heap.size w)
 have H : ((spec_copyImage.f a0_0 a0_1 a0_2 l0_3).bind fun btz0 => (spec_mirror.l0 k 0 a0_0 a0_1 a0_2 l0_3 btz0.1 btz0.2.1 btz0.2.2.1 btz0.2.2.2)) = some (r1, r2, r3, r4) := h
 clear h
 replace H := Option.bind_eq_some_iff.mp H
 obtain ⟨⟨tz0, tz1, tz2, tz5⟩, A20, H⟩ := H
 replace H : (spec_mirror.l0 k 0 a0_0 a0_1 a0_2 l0_3 tz0 tz1 tz2 tz5) = some (r1, r2, r3, r4) := H
 have A2 := mk A20
 clear A20
 have H' := mk H
 clear H
 go_enter Try.func72, Try.ntmps72
 go_wp2_with (first | ((with_reducible refine gate_dst (N := 1) rfl ?_); refine box_event (by rfl) (N := 1) (by rfl) (cs := #[.int .i64 a0_0, .int .i64 a0_1, .int .i64 a0_2, .slice A0_3 l0_3.length c0_3]) (t := 28) (by go_simp; done) ?_; intro gbz1 hg w3 hbox hb; replace HB := mk (below_step HB.out hb); have BKz0 := mk (hbox); clear hb hbox hg) | ((with_reducible refine gate_dst (N := 2) rfl ?_); refine box_event (by rfl) (N := 2) (by rfl) (cs := #[.int .i64 0, .int .i64 0, .int .i64 0, .slice none 0 0]) (t := 28) (by go_simp; done) ?_; intro gbz2 hg w4 hbox hb; replace BKz0 := mk (blk_below BKz0.out hb); have BKz2 := mk (hbox); have GEz0 := mk ((by rw [hg]; exact (below_size HB.out) : w.heap.size ≤ gbz2)); replace HB := mk (below_step HB.out hb); clear hb hbox hg; have hcz6_0 : w4.cell? ⟨gbz1, 0, none⟩ = some (.int .i64 a0_0) := (blk_cell BKz0.out 0).trans rfl; have hcz6_1 : w4.cell? ⟨gbz1, 1, none⟩ = some (.int .i64 a0_1) := (blk_cell BKz0.out 1).trans rfl; have hcz6_2 : w4.cell? ⟨gbz1, 2, none⟩ = some (.int .i64 a0_2) := (blk_cell BKz0.out 2).trans rfl; have hcz6_3 : w4.cell? ⟨gbz1, 3, none⟩ = some (.slice A0_3 l0_3.length c0_3) := (blk_cell BKz0.out 3).trans rfl; have hfz6_0 := blk_frozen BKz0.out 0; have hfz6_1 := blk_frozen BKz0.out 1; have hfz6_2 := blk_frozen BKz0.out 2; have hfz6_3 := blk_frozen BKz0.out 3) | ((with_reducible refine gate_callee (f := 40) rfl ?_); refine goesL_ (some 7) rfl rfl Try.func40 (by kernel_rfl) rfl #[.agg #[.int .i64 a0_0, .int .i64 a0_1, .int .i64 a0_2, .slice A0_3 l0_3.length c0_3]] rfl (by (try simp only [List.map_toArray, List.map_cons, List.map_nil]); rfl) ?_; (with_reducible refine (spec_copyImage.calls a0_0 a0_1 a0_2 _ _ l0_3 tz0 tz1 tz2 tz5 _ ?side1 ?side2 A2.out).mono ?_); (case side1 => repeat (exact (Kd.C_below HR0_3.out HB.out))); (case side2 => exact HC0_3.out); rintro e w7 ⟨vz0, rfl, ho0, hb⟩; refine ⟨_, rfl, ?_⟩; have HOz2 := mk (Kd.R_lower ho0 (below_size HB.out)); replace BKz0 := mk (blk_below BKz0.out hb); replace BKz2 := mk (blk_below BKz2.out hb); replace HB := mk (below_step HB.out hb); (try clear hb); (try clear ho0)) | ((with_reducible refine gate_dst (N := 3) rfl ?_); refine box_event (by rfl) (N := 3) (by rfl) (cs := #[.int .i64 0, .int .i64 0, .int .i64 0, .slice none 0 0]) (t := 28) (by go_simp; done) ?_; intro gbz0 hg w8 hbox hb; replace HOz2 := mk (Kd.R_below HOz2.out hb); have BKz1 := mk (hbox); have GEz1 := mk ((by rw [hg]; exact (below_size HB.out) : w.heap.size ≤ gbz0)); replace HB := mk (below_step HB.out hb); have NBz0 := mk ((by rw [hg]; exact Nat.ne_of_lt (blk_lt BKz0.out) : gbz1 ≠ gbz0)); replace BKz0 := mk (blk_below BKz0.out hb); have NBz1 := mk ((by rw [hg]; exact Nat.ne_of_lt (blk_lt BKz2.out) : gbz2 ≠ gbz0)); replace BKz2 := mk (blk_below BKz2.out hb); clear hb hbox hg; have hcz11_0 : w8.cell? ⟨gbz0, 0, none⟩ = some (.int .i64 0) := (blk_cell BKz1.out 0).trans rfl; have hcz11_1 : w8.cell? ⟨gbz0, 1, none⟩ = some (.int .i64 0) := (blk_cell BKz1.out 1).trans rfl; have hcz11_2 : w8.cell? ⟨gbz0, 2, none⟩ = some (.int .i64 0) := (blk_cell BKz1.out 2).trans rfl; have hcz11_3 : w8.cell? ⟨gbz0, 3, none⟩ = some (.slice none 0 0) := (blk_cell BKz1.out 3).trans rfl; have hfz11_0 := blk_frozen BKz1.out 0; have hfz11_1 := blk_frozen BKz1.out 1; have hfz11_2 := blk_frozen BKz1.out 2; have hfz11_3 := blk_frozen BKz1.out 3; obtain ⟨Ao12, co12, eo12⟩ := Kd.R_slice HOz2.out; subst eo12))
 go_loopg [4] k (fun kq v4 w' => ∃ (x4_1 : Int) (xz1 : List Int) (u73010003 : Value), v4 = .int .i64 x4_1 ∧ Aside0 (spec_mirror.l0 kq x4_1 a0_0 a0_1 a0_2 l0_3 tz0 tz1 tz2 xz1 = some (r1, r2, r3, r4)) ∧ Aside0 (kq ≤ k) ∧ Aside0 (Kd.R (Kd.int .i64) 3 w' w.heap.size (fun _ => True) u73010003 xz1) ∧ Aside0 (w'.heap[gbz1]? = some (.cells #[.int .i64 a0_0, .int .i64 a0_1, .int .i64 a0_2, (.slice A0_3 l0_3.length c0_3)] 28 (0, 0))) ∧ Aside0 (w'.heap[gbz2]? = some (.cells #[.int .i64 0, .int .i64 0, .int .i64 0, (.slice none 0 0)] 28 (0, 0))) ∧ Aside0 (w'.heap[gbz0]? = some (.cells #[.int .i64 tz0, .int .i64 tz1, .int .i64 tz2, u73010003] 28 (0, 0))) ∧ Aside0 (Below w.heap.size w w'))
 case atStart => exact ⟨(0), (tz5), (.slice Ao12 tz5.length co12), (by rfl), H', ⟨Nat.le_refl _⟩, ⟨by (with_reducible repeat (first | apply Kd.R_alloc | apply Kd.R_drewN | apply Kd.R_drew)); exact Kd.R_mono (Kd.R_far (p := ⟨gbz0, 3, none⟩) (Kd.R_far (p := ⟨gbz0, 2, none⟩) (Kd.R_far (p := ⟨gbz0, 1, none⟩) (Kd.R_far (p := ⟨gbz0, 0, none⟩) (Kd.R_types HOz2.out BKz1.out (by decide)) (fun _ hk => hk.2) (.int .i64 tz0)) (fun _ hk => hk.2) (.int .i64 tz1)) (fun _ hk => hk.2) (.int .i64 tz2)) (fun _ hk => hk.2) (.slice Ao12 tz5.length co12)) (fun _ hk => trivial)⟩, ⟨by refine blk_far ?_ NBz0.out _; refine blk_far ?_ NBz0.out _; refine blk_far ?_ NBz0.out _; refine blk_far ?_ NBz0.out _; (with_reducible repeat (first | refine blk_drewN ?_ _ | refine blk_drew ?_ | refine blk_alloc ?_ _)); exact BKz0.out⟩, ⟨by refine blk_far ?_ NBz1.out _; refine blk_far ?_ NBz1.out _; refine blk_far ?_ NBz1.out _; refine blk_far ?_ NBz1.out _; (with_reducible repeat (first | refine blk_drewN ?_ _ | refine blk_drew ?_ | refine blk_alloc ?_ _)); exact BKz2.out⟩, ⟨by refine blk_put (cs := #[.int .i64 tz0, .int .i64 tz1, .int .i64 tz2, .slice none 0 0]) ?_ 3 _ rfl; refine blk_put (cs := #[.int .i64 tz0, .int .i64 tz1, .int .i64 0, .slice none 0 0]) ?_ 2 _ rfl; refine blk_put (cs := #[.int .i64 tz0, .int .i64 0, .int .i64 0, .slice none 0 0]) ?_ 1 _ rfl; refine blk_put (cs := #[.int .i64 0, .int .i64 0, .int .i64 0, .slice none 0 0]) ?_ 0 _ rfl; (with_reducible repeat (first | refine blk_drewN ?_ _ | refine blk_drew ?_ | refine blk_alloc ?_ _)); exact BKz1.out⟩, ⟨by repeat (with_reducible first | exact HB.out | refine below_set ?_ GEz1.out)⟩⟩
 case round =>
  clear H'
  try clear c1
  try clear p2
  try clear c4
  try clear c5
  try clear c7
  try clear c9
  try clear c10
  try clear hcz11_0
  try clear hcz11_1
  try clear hcz11_2
  try clear hcz11_3
  try clear hcz6_0
  try clear hcz6_1
  try clear hcz6_2
  try clear hcz6_3
  try clear hfz11_0
  try clear hfz11_1
  try clear hfz11_2
  try clear hfz11_3
  try clear hfz6_0
  try clear hfz6_1
  try clear hfz6_2
  try clear hfz6_3
  obtain ⟨x4_1, xz1, u73010003, rfl, HA, HK1, HOz0, BKz0, BKz2, BKz1, HB⟩ := hrel
  cases gk with
  | zero => exact absurd HA.out (by simp [spec_mirror.l0])
  | succ k1 =>
   have H := HA.out
   clear HA
   simp only [spec_mirror.l0] at H
   by_cases c13 : x4_1 < a0_1
   ·rw [if_pos c13] at H
    have c13b0 : decide (x4_1 < a0_1) = true := decide_eq_true c13
    clear c13
    have H' := mk H
    clear H
    have hcz16_0 : wr.cell? ⟨gbz1, 0, none⟩ = some (.int .i64 a0_0) := (blk_cell BKz0.out 0).trans rfl
    have hcz16_1 : wr.cell? ⟨gbz1, 1, none⟩ = some (.int .i64 a0_1) := (blk_cell BKz0.out 1).trans rfl
    have hcz16_2 : wr.cell? ⟨gbz1, 2, none⟩ = some (.int .i64 a0_2) := (blk_cell BKz0.out 2).trans rfl
    have hcz16_3 : wr.cell? ⟨gbz1, 3, none⟩ = some (.slice A0_3 l0_3.length c0_3) := (blk_cell BKz0.out 3).trans rfl
    have hfz16_0 := blk_frozen BKz0.out 0
    have hfz16_1 := blk_frozen BKz0.out 1
    have hfz16_2 := blk_frozen BKz0.out 2
    have hfz16_3 := blk_frozen BKz0.out 3
    go_wp2
    go_loopg [5] k1 (fun kq v5 w' => ∃ (x5_2 : Int) (xz0 : List Int) (u73010003 : Value), v5 = .int .i64 x5_2 ∧ Aside0 (spec_mirror.l1 kq x4_1 x5_2 a0_0 a0_1 a0_2 l0_3 tz0 tz1 tz2 xz0 = some (r1, r2, r3, r4)) ∧ Aside0 (kq ≤ k1) ∧ Aside0 (Kd.R (Kd.int .i64) 3 w' w.heap.size (fun _ => True) u73010003 xz0) ∧ Aside0 (w'.heap[gbz1]? = some (.cells #[.int .i64 a0_0, .int .i64 a0_1, .int .i64 a0_2, (.slice A0_3 l0_3.length c0_3)] 28 (0, 0))) ∧ Aside0 (w'.heap[gbz2]? = some (.cells #[.int .i64 0, .int .i64 0, .int .i64 0, (.slice none 0 0)] 28 (0, 0))) ∧ Aside0 (w'.heap[gbz0]? = some (.cells #[.int .i64 tz0, .int .i64 tz1, .int .i64 tz2, u73010003] 28 (0, 0))) ∧ Aside0 (Below w.heap.size w w'))
    case atStart => exact ⟨(0), (xz1), (u73010003), (by rfl), H', ⟨Nat.le_refl _⟩, ⟨by (with_reducible repeat (first | apply Kd.R_alloc | apply Kd.R_drewN | apply Kd.R_drew)); exact HOz0.out⟩, ⟨by (with_reducible repeat (first | refine blk_drewN ?_ _ | refine blk_drew ?_ | refine blk_alloc ?_ _)); exact BKz0.out⟩, ⟨by (with_reducible repeat (first | refine blk_drewN ?_ _ | refine blk_drew ?_ | refine blk_alloc ?_ _)); exact BKz2.out⟩, ⟨by (with_reducible repeat (first | refine blk_drewN ?_ _ | refine blk_drew ?_ | refine blk_alloc ?_ _)); exact BKz1.out⟩, ⟨by exact HB.out⟩⟩
    case round =>
     clear H'
     try clear c1
     try clear p2
     try clear c4
     try clear c5
     try clear c7
     try clear c9
     try clear c10
     try clear c13
     try clear c13b0
     try clear c14
     try clear c15
     try clear hcz11_0
     try clear hcz11_1
     try clear hcz11_2
     try clear hcz11_3
     try clear hcz16_0
     try clear hcz16_1
     try clear hcz16_2
     try clear hcz16_3
     try clear hcz6_0
     try clear hcz6_1
     try clear hcz6_2
     try clear hcz6_3
     try clear hfz11_0
     try clear hfz11_1
     try clear hfz11_2
     try clear hfz11_3
     try clear hfz16_0
     try clear hfz16_1
     try clear hfz16_2
     try clear hfz16_3
     try clear hfz6_0
     try clear hfz6_1
     try clear hfz6_2
     try clear hfz6_3
     try clear p2
     obtain ⟨x5_2, xz0, u73010003, rfl, HA, HK2, HOz0, BKz0, BKz2, BKz1, HB⟩ := hrel
     cases gk with
     | zero => exact absurd HA.out (by simp [spec_mirror.l1])
     | succ k2 =>
      have H := HA.out
      clear HA
      simp only [spec_mirror.l1] at H
      by_cases c17 : x5_2 < a0_0
      ·rw [if_pos c17] at H
       have c17b0 : decide (x5_2 < a0_0) = true := decide_eq_true c17
       clear c17
       replace H := Option.bind_eq_some_iff.mp H
       obtain ⟨tz4, A180, H⟩ := H
       replace H : ((spec_setPixel.f k2 tz0 tz1 tz2 xz0 (wrap64 ((wrap64 (a0_0 - 1)) - x5_2)) x4_1 tz4).bind fun tz3 => (spec_mirror.l1 k2 x4_1 (wrap64 (x5_2 + 1)) a0_0 a0_1 a0_2 l0_3 tz0 tz1 tz2 tz3)) = some (r1, r2, r3, r4) := H
       have A18 := mk A180
       clear A180
       replace H := Option.bind_eq_some_iff.mp H
       obtain ⟨tz3, A190, H⟩ := H
       replace H : (spec_mirror.l1 k2 x4_1 (wrap64 (x5_2 + 1)) a0_0 a0_1 a0_2 l0_3 tz0 tz1 tz2 tz3) = some (r1, r2, r3, r4) := H
       have A19 := mk A190
       clear A190
       have H' := mk H
       clear H
       have hcz22_0 : wr.cell? ⟨gbz1, 0, none⟩ = some (.int .i64 a0_0) := (blk_cell BKz0.out 0).trans rfl
       try go_wp2
       have n0_ := mk (Kd.R_drew HOz0.out)
       have n1_ := mk (blk_drew BKz0.out)
       have n2_ := mk (blk_drew BKz2.out)
       have n3_ := mk (blk_drew BKz1.out)
       have n4_ := mk (below_drew1 HB.out)
       clear HOz0 BKz0 BKz2 BKz1 HB
       revert n0_ n1_ n2_ n3_ n4_; intro HOz0 BKz0 BKz2 BKz1 HB
       refine start_ (n := 12) (S := fun w' => w'.cell? ⟨gbz0, 0, none⟩ = some (.int .i64 tz0) ∧ w'.cell? ⟨gbz0, 1, none⟩ = some (.int .i64 tz1) ∧ w'.cell? ⟨gbz0, 2, none⟩ = some (.int .i64 tz2) ∧ w'.cell? ⟨gbz0, 3, none⟩ = some u73010003 ∧ w'.cell? ⟨gbz1, 0, none⟩ = some (.int .i64 a0_0) ∧ w'.cell? ⟨gbz1, 1, none⟩ = some (.int .i64 a0_1) ∧ w'.cell? ⟨gbz1, 2, none⟩ = some (.int .i64 a0_2) ∧ w'.cell? ⟨gbz1, 3, none⟩ = some (.slice A0_3 l0_3.length c0_3)) (ds := []) #[false, false, false, false, false, false, false, false, false, false, false, false] (by kernel_rfl) rfl rfl ⟨(blk_cell BKz1.out 0).trans rfl, (blk_cell BKz1.out 1).trans rfl, (blk_cell BKz1.out 2).trans rfl, (blk_cell BKz1.out 3).trans rfl, (blk_cell BKz0.out 0).trans rfl, (blk_cell BKz0.out 1).trans rfl, (blk_cell BKz0.out 2).trans rfl, (blk_cell BKz0.out 3).trans rfl⟩ (fun hHeld => ?_); refine with_tabW spec_mirror.tab8 spec_mirror.bits8 (fun HT_ HW_ => ?_)
       generalize wr.drew = w23 at HOz0 BKz0 BKz2 BKz1 HB hHeld ⊢
       refine pure_ (i := 1) (N := some 21) (v := ?_) (a' := ?_) #[false, true, false, false, false, false, false, false, false, false, false, false] rfl rfl (any_of HT_.out (by kernel_rfl)) (fun _ _ _ h => h) (Or.inl ⟨by rfl, ?_⟩) ?_ ?_
       rotate_left
       ·intro w'
        go_simp
        with_reducible rfl
       rotate_left
       ·simp only [Act.put, List.setIfInBounds_toArray, List.set_cons_zero, List.set_cons_succ, i64_w, i32_w]
        rfl
       refine pure_ (i := 4) (N := some 24) (v := ?_) (a' := ?_) #[false, true, false, false, true, false, false, false, false, false, false, false] rfl rfl (any_of HT_.out (by kernel_rfl)) (fun _ _ _ h => h) (Or.inl ⟨by rfl, ?_⟩) ?_ ?_
       rotate_left
       ·intro w'
        go_simp
        with_reducible rfl
       rotate_left
       ·simp only [Act.put, List.setIfInBounds_toArray, List.set_cons_zero, List.set_cons_succ, i64_w, i32_w]
        rfl
       refine pure_ (i := 6) (N := some 26) (v := ?_) (a' := ?_) #[false, true, false, false, true, false, true, false, false, false, false, false] rfl rfl (any_of HT_.out (by kernel_rfl)) (fun _ _ _ h => h) (Or.inl ⟨by rfl, ?_⟩) ?_ ?_
       rotate_left
       ·intro w'
        go_simp
        with_reducible rfl
       rotate_left
       ·simp only [Act.put, List.setIfInBounds_toArray, List.set_cons_zero, List.set_cons_succ, i64_w, i32_w]
        rfl
       refine pure_ (i := 8) (N := some 28) (v := ?_) (a' := ?_) #[false, true, false, false, true, false, true, false, true, false, false, false] rfl rfl (any_of HT_.out (by kernel_rfl)) (fun _ _ _ h => h) (Or.inl ⟨by rfl, ?_⟩) ?_ ?_
       rotate_left
       ·intro w'
        go_simp
        with_reducible rfl
       rotate_left
       ·simp only [Act.put, List.setIfInBounds_toArray, List.set_cons_zero, List.set_cons_succ, i64_w, i32_w]
        rfl
       refine pure_ (i := 9) (N := some 29) (v := ?_) (a' := ?_) #[false, true, false, false, true, false, true, false, true, true, false, false] rfl rfl (any_of HT_.out (by kernel_rfl)) (fun _ _ _ h => h) (Or.inl ⟨by rfl, ?_⟩) ?_ ?_
       rotate_left
       ·intro w'
        go_simp
        with_reducible rfl
       rotate_left
       ·simp only [Act.put, List.setIfInBounds_toArray, List.set_cons_zero, List.set_cons_succ, i64_w, i32_w]
        rfl
       refine take_ (i := 0) (N := some 20) (v := ?_) (a' := ?_) #[true, true, false, false, true, false, true, false, true, true, false, false] rfl rfl (take_ofW HT_.out HW_.out (by kernel_rfl)) (fun _ _ _ h => h) (Or.inl ⟨by rfl, ?_⟩) hHeld ?_ ?_
       rotate_left
       ·rintro w' ⟨s0, s1, s2, s3, s4, s5, s6, s7⟩
        go_simp
        with_reducible rfl
       rotate_left
       ·simp only [Act.put, List.setIfInBounds_toArray, List.set_cons_zero, List.set_cons_succ, i64_w, i32_w]
        rfl
       refine take_ (i := 2) (N := some 22) (v := ?_) (a' := ?_) #[true, true, true, false, true, false, true, false, true, true, false, false] rfl rfl (take_ofW HT_.out HW_.out (by kernel_rfl)) (fun _ _ _ h => h) (Or.inl ⟨by rfl, ?_⟩) hHeld ?_ ?_
       rotate_left
       ·rintro w' ⟨s0, s1, s2, s3, s4, s5, s6, s7⟩
        go_simp
        with_reducible rfl
       rotate_left
       ·simp only [Act.put, List.setIfInBounds_toArray, List.set_cons_zero, List.set_cons_succ, i64_w, i32_w]
        rfl
       refine pure_ (i := 3) (N := some 23) (v := ?_) (a' := ?_) #[true, true, true, true, true, false, true, false, true, true, false, false] rfl rfl (any_of HT_.out (by kernel_rfl)) (fun _ _ _ h => h) (Or.inl ⟨by rfl, ?_⟩) ?_ ?_
       rotate_left
       ·intro w'
        go_simp
        with_reducible rfl
       rotate_left
       ·simp only [Act.put, List.setIfInBounds_toArray, List.set_cons_zero, List.set_cons_succ, i64_w, i32_w]
        rfl
       refine pure_ (i := 5) (N := some 25) (v := ?_) (a' := ?_) #[true, true, true, true, true, true, true, false, true, true, false, false] rfl rfl (any_of HT_.out (by kernel_rfl)) (fun _ _ _ h => h) (Or.inl ⟨by rfl, ?_⟩) ?_ ?_
       rotate_left
       ·intro w'
        go_simp
        with_reducible rfl
       rotate_left
       ·simp only [Act.put, List.setIfInBounds_toArray, List.set_cons_zero, List.set_cons_succ, i64_w, i32_w]
        rfl
       refine take_ (i := 7) (N := some 27) (v := ?_) (a' := ?_) #[true, true, true, true, true, true, true, true, true, true, false, false] rfl rfl (take_ofW HT_.out HW_.out (by kernel_rfl)) (fun _ _ _ h => h) (Or.inl ⟨by rfl, ?_⟩) hHeld ?_ ?_
       rotate_left
       ·rintro w' ⟨s0, s1, s2, s3, s4, s5, s6, s7⟩
        go_simp
        with_reducible rfl
       rotate_left
       ·simp only [Act.put, List.setIfInBounds_toArray, List.set_cons_zero, List.set_cons_succ, i64_w, i32_w]
        rfl
       refine one_ (i := 10) (N := some 30) #[true, true, true, true, true, true, true, true, true, true, true, false] rfl rfl (one_of HT_.out (by kernel_rfl)) (by decide) (fun K hK => ?_)
       refine goes_ Try.func95 (by kernel_rfl) rfl #[.agg #[.int .i64 a0_0, .int .i64 a0_1, .int .i64 a0_2, .slice A0_3 l0_3.length c0_3], .int .i64 x5_2, .int .i64 x4_1] (by rfl) rfl rfl (by (try simp only [List.map_toArray, List.map_cons, List.map_nil]); rfl) ?_
       with_reducible refine (spec_pixelAt.calls a0_0 a0_1 a0_2 _ _ l0_3 x5_2 x4_1 tz4 _ ?side1 ?side2 A18.out).mono ?_
       (case side1 => repeat (exact (Kd.C_below HR0_3.out HB.out)))
       (case side2 => exact HC0_3.out)
       rintro e w24 ⟨vz1, rfl, ho0, hb⟩
       refine ⟨_, rfl, ?_⟩
       have n0_ := mk (Kd.R_elder' HOz0.out (Kd.R_base ho0) hb)
       have n1_ := mk (Kd.R_lower (Kd.R_new' ho0 (Kd.R_lt HOz0.out)) (below_size HB.out))
       have n2_ := mk (blk_below BKz0.out hb)
       have n3_ := mk (blk_below BKz2.out hb)
       have n4_ := mk (blk_below BKz1.out hb)
       have n5_ := mk (below_step HB.out hb)
       clear HOz0 BKz0 BKz2 BKz1 HB
       revert n0_ n1_ n2_ n3_ n4_ n5_; intro HOz0 HOz1 BKz0 BKz2 BKz1 HB
       (try clear hb)
       (try clear ho0)
       obtain ⟨Ao25, co25, eo25⟩ := Kd.R_slice HOz0.out
       (subst eo25)
       obtain ⟨Ao26, co26, eo26⟩ := Kd.R_slice HOz1.out
       (subst eo26)
       refine hK.out _ _ ⟨(blk_cell BKz1.out 0).trans rfl, (blk_cell BKz1.out 1).trans rfl, (blk_cell BKz1.out 2).trans rfl, (blk_cell BKz1.out 3).trans rfl, (blk_cell BKz0.out 0).trans rfl, (blk_cell BKz0.out 1).trans rfl, (blk_cell BKz0.out 2).trans rfl, (blk_cell BKz0.out 3).trans rfl⟩ (fun hHeld => ?_)
       clear hK K
       refine norm_ (a' := ?_) ?_ ?_
       rotate_left
       ·show Act.put _ (some 30) _ = _
        simp only [Act.put, List.setIfInBounds_toArray, List.set_cons_zero, List.set_cons_succ, i64_w, i32_w]
        rfl
       refine one_ (i := 11) (N := some 31) #[true, true, true, true, true, true, true, true, true, true, true, true] rfl rfl (one_of HT_.out (by kernel_rfl)) (by decide) (fun K hK => ?_)
       refine goes_ Try.func94 (by kernel_rfl) rfl #[.agg #[.int .i64 tz0, .int .i64 tz1, .int .i64 tz2, .slice Ao25 xz0.length co25], .int .i64 (wrap64 ((wrap64 (a0_0 - 1)) - x5_2)), .int .i64 x4_1, .slice Ao26 tz4.length co26] (by rfl) rfl rfl (by (try simp only [List.map_toArray, List.map_cons, List.map_nil]); rfl) ?_
       with_reducible refine (spec_setPixel.calls k2 tz0 tz1 tz2 (fun k_ => some k_ = (.slice Ao25 xz0.length co25 : Value).ownBlock) (.slice Ao25 xz0.length co25) xz0 (wrap64 ((wrap64 (a0_0 - 1)) - x5_2)) x4_1 _ _ tz4 tz3 w _ ?side1 ?side2 ?side3 ?side4 A19.out).mono ?_
       (case side1 => repeat (with_reducible exact HB.out))
       (case side2 => exact Kd.R_tight rfl HOz0.out)
       (case side3 => exact Kd.C_kept_own HOz1.out (fun k_ hk_ hs_ => hk_.2 hs_))
       (case side4 => exact (Kd.R_reads' HOz1.out).2.1)
       rintro e w27 ⟨rfl, hy0, hb, hkp⟩
       refine ⟨_, rfl, ?_⟩
       have n0_ := mk (Kd.R_reok rfl hy0 (fun k_ e_ => HOz0.out.1 k_ e_))
       have n1_ := mk (blk_kept BKz0.out hkp (fun hs_ => (fun e_ => (Kd.R_ne HOz0.out BKz0.out (by decide)) e_) hs_))
       have n2_ := mk (blk_kept BKz2.out hkp (fun hs_ => (fun e_ => (Kd.R_ne HOz0.out BKz2.out (by decide)) e_) hs_))
       have n3_ := mk (blk_kept BKz1.out hkp (fun hs_ => (fun e_ => (Kd.R_ne HOz0.out BKz1.out (by decide)) e_) hs_))
       have n4_ := mk (Kd.R_mono (ok' := fun k_ => some k_ ≠ (.slice Ao25 xz0.length co25 : Value).ownBlock) (Kd.R_keptB HOz1.out hkp (fun k_ hk_ hs_ => hk_.2 hs_)) (fun k_ hk_ => hk_.1.2))
       have n5_ := mk (hb)
       clear HOz0 BKz0 BKz2 BKz1 HOz1 HB
       revert n0_ n1_ n2_ n3_ n4_ n5_; intro HOz0 BKz0 BKz2 BKz1 HOz1 HB
       (try clear hb)
       (try clear hkp)
       (try clear hy0)
       refine hK.out _ _ ⟨(blk_cell BKz1.out 0).trans rfl, (blk_cell BKz1.out 1).trans rfl, (blk_cell BKz1.out 2).trans rfl, (blk_cell BKz1.out 3).trans rfl, (blk_cell BKz0.out 0).trans rfl, (blk_cell BKz0.out 1).trans rfl, (blk_cell BKz0.out 2).trans rfl, (blk_cell BKz0.out 3).trans rfl⟩ (fun hHeld => ?_)
       clear hK K
       refine norm_ (a' := ?_) ?_ ?_
       rotate_left
       ·show Act.put _ (some 31) _ = _
        simp only [Act.put, List.setIfInBounds_toArray, List.set_cons_zero, List.set_cons_succ, i64_w, i32_w]
        rfl
       refine done_ (done_of HT_.out (by kernel_rfl)) ?_
       try go_wp2
       go_roundg k2
       case measure => have := HK1.out; have := HK2.out; omega
       case rel => exact ⟨(wrap64 (x5_2 + 1)), (tz3), (.slice Ao25 xz0.length co25), (by rfl), H', ⟨by have := HK1.out; have := HK2.out; omega⟩, ⟨by (with_reducible repeat (first | apply Kd.R_alloc | apply Kd.R_drewN | apply Kd.R_drew)); exact Kd.R_mono HOz0.out (fun _ hk => trivial)⟩, ⟨by (with_reducible repeat (first | refine blk_drewN ?_ _ | refine blk_drew ?_ | refine blk_alloc ?_ _)); exact BKz0.out⟩, ⟨by (with_reducible repeat (first | refine blk_drewN ?_ _ | refine blk_drew ?_ | refine blk_alloc ?_ _)); exact BKz2.out⟩, ⟨by (with_reducible repeat (first | refine blk_drewN ?_ _ | refine blk_drew ?_ | refine blk_alloc ?_ _)); exact BKz1.out⟩, ⟨by exact HB.out⟩⟩
      rw [if_neg c17] at H
      have c17b0 : decide (x5_2 < a0_0) = false := decide_eq_false c17
      clear c17
      have H' := mk H
      clear H
      have hcz30_0 : wr.cell? ⟨gbz1, 0, none⟩ = some (.int .i64 a0_0) := (blk_cell BKz0.out 0).trans rfl
      go_wp2
      go_roundg k2
      case measure => have := HK1.out; have := HK2.out; omega
      case rel => exact ⟨(wrap64 (x4_1 + 1)), (xz0), (u73010003), (by rfl), H', ⟨by have := HK1.out; have := HK2.out; omega⟩, ⟨by (with_reducible repeat (first | apply Kd.R_alloc | apply Kd.R_drewN | apply Kd.R_drew)); exact HOz0.out⟩, ⟨by (with_reducible repeat (first | refine blk_drewN ?_ _ | refine blk_drew ?_ | refine blk_alloc ?_ _)); exact BKz0.out⟩, ⟨by (with_reducible repeat (first | refine blk_drewN ?_ _ | refine blk_drew ?_ | refine blk_alloc ?_ _)); exact BKz2.out⟩, ⟨by (with_reducible repeat (first | refine blk_drewN ?_ _ | refine blk_drew ?_ | refine blk_alloc ?_ _)); exact BKz1.out⟩, ⟨by exact HB.out⟩⟩
   rw [if_neg c13] at H
   have c13b0 : decide (x4_1 < a0_1) = false := decide_eq_false c13
   clear c13
   simp only [Option.some.injEq, Prod.mk.injEq] at H
   obtain ⟨rfl, rfl, rfl, rfl⟩ := H
   have hcz33_1 : wr.cell? ⟨gbz1, 1, none⟩ = some (.int .i64 a0_1) := (blk_cell BKz0.out 1).trans rfl
   have hcz35_0 : wr.cell? ⟨gbz0, 0, none⟩ = some (.int .i64 tz0) := (blk_cell BKz1.out 0).trans rfl
   have hcz35_1 : wr.cell? ⟨gbz0, 1, none⟩ = some (.int .i64 tz1) := (blk_cell BKz1.out 1).trans rfl
   have hcz35_2 : wr.cell? ⟨gbz0, 2, none⟩ = some (.int .i64 tz2) := (blk_cell BKz1.out 2).trans rfl
   have hcz35_3 : wr.cell? ⟨gbz0, 3, none⟩ = some u73010003 := (blk_cell BKz1.out 3).trans rfl
   have hcz36_0 : wr.cell? ⟨gbz2, 0, none⟩ = some (.int .i64 0) := (blk_cell BKz2.out 0).trans rfl
   have hcz36_1 : wr.cell? ⟨gbz2, 1, none⟩ = some (.int .i64 0) := (blk_cell BKz2.out 1).trans rfl
   have hcz36_2 : wr.cell? ⟨gbz2, 2, none⟩ = some (.int .i64 0) := (blk_cell BKz2.out 2).trans rfl
   have hcz36_3 : wr.cell? ⟨gbz2, 3, none⟩ = some (.slice none 0 0) := (blk_cell BKz2.out 3).trans rfl
   have hfz36_0 := blk_frozen BKz2.out 0
   have hfz36_1 := blk_frozen BKz2.out 1
   have hfz36_2 := blk_frozen BKz2.out 2
   have hfz36_3 := blk_frozen BKz2.out 3
   obtain ⟨Ao37, co37, eo37⟩ := Kd.R_slice HOz0.out
   subst eo37
   go_wp2
   refine bodyPost_ret (results_cell_row rfl _ _ gbz2 28 #[.int .i64 tz0, .int .i64 tz1, .int .i64 tz2, .slice Ao37 xz1.length co37] (0, 0) _ rfl (by refine blk_put (cs := #[.int .i64 tz0, .int .i64 tz1, .int .i64 tz2, .slice none 0 0]) ?_ 3 _ rfl; refine blk_put (cs := #[.int .i64 tz0, .int .i64 tz1, .int .i64 0, .slice none 0 0]) ?_ 2 _ rfl; refine blk_put (cs := #[.int .i64 tz0, .int .i64 0, .int .i64 0, .slice none 0 0]) ?_ 1 _ rfl; refine blk_put (cs := #[.int .i64 0, .int .i64 0, .int .i64 0, .slice none 0 0]) ?_ 0 _ rfl; (with_reducible repeat (first | refine blk_drewN ?_ _ | refine blk_drew ?_ | refine blk_alloc ?_ _)); exact BKz2.out) Try.underlying28 rfl (by kernel_rfl)) rfl ?_
   exact ⟨_, by rfl, by (with_reducible repeat (first | apply Kd.R_alloc | apply Kd.R_drewN | apply Kd.R_drew)); exact Kd.R_mono (Kd.R_far (p := ⟨gbz2, 3, none⟩) (Kd.R_far (p := ⟨gbz2, 2, none⟩) (Kd.R_far (p := ⟨gbz2, 1, none⟩) (Kd.R_far (p := ⟨gbz2, 0, none⟩) (Kd.R_types HOz0.out BKz2.out (by decide)) (fun _ hk => hk.2) (.int .i64 tz0)) (fun _ hk => hk.2) (.int .i64 tz1)) (fun _ hk => hk.2) (.int .i64 tz2)) (fun _ hk => hk.2) (.slice Ao37 xz1.length co37)) (fun _ hk => trivial), by repeat (with_reducible first | exact HB.out | refine below_set ?_ GEz0.out)⟩


mutual
def spec_turn.l0 : Nat → Int → Int → Int → Int → List Int → Int → Int → Int → List Int → Option (Int × Int × Int × List Int)
 | 0, _, _, _, _, _, _, _, _, _ => none
 | k + 1, x4, xz3, xz2, xz7, xz8, xz4, xz5, xz6, xz9 => if x4 < xz2 then (spec_turn.l1 k x4 0 xz3 xz2 xz7 xz8 xz4 xz5 xz6 xz9) else (some (xz4, xz5, xz6, xz9))
def spec_turn.l1 : Nat → Int → Int → Int → Int → Int → List Int → Int → Int → Int → List Int → Option (Int × Int × Int × List Int)
 | 0, _, _, _, _, _, _, _, _, _, _ => none
 | k + 1, x4, x5, xz3, xz2, xz7, xz8, xz4, xz5, xz6, xz9 => if x5 < xz3 then ((spec_pixelAt.f xz3 xz2 xz7 xz8 x5 x4).bind fun tz4 => ((spec_setPixel.f k xz4 xz5 xz6 xz9 (wrap64 ((wrap64 (xz2 - 1)) - x4)) x5 tz4).bind fun tz3 => (spec_turn.l1 k x4 (wrap64 (x5 + 1)) xz3 xz2 xz7 xz8 xz4 xz5 xz6 tz3))) else (spec_turn.l0 k (wrap64 (x4 + 1)) xz3 xz2 xz7 xz8 xz4 xz5 xz6 xz9)
end
def spec_turn.f (k : Nat) (a0_0 : Int) (a0_1 : Int) (a0_2 : Int) (l0_3 : List Int) : Option (Int × Int × Int × List Int) := (spec_newImage.f a0_1 a0_0 a0_2).bind fun btz0 => (spec_turn.l0 k 0 a0_0 a0_1 a0_2 l0_3 btz0.1 btz0.2.1 btz0.2.2.1 btz0.2.2.2)
theorem spec_turn.mono_l : ∀ k, (∀ y0 y1 y2 y3 y4 y5 y6 y7 y8, LeO (spec_turn.l0 k y0 y1 y2 y3 y4 y5 y6 y7 y8) (spec_turn.l0 (k + 1) y0 y1 y2 y3 y4 y5 y6 y7 y8)) ∧ (∀ y0 y1 y2 y3 y4 y5 y6 y7 y8 y9, LeO (spec_turn.l1 k y0 y1 y2 y3 y4 y5 y6 y7 y8 y9) (spec_turn.l1 (k + 1) y0 y1 y2 y3 y4 y5 y6 y7 y8 y9))
 | 0 => ⟨fun _ _ _ _ _ _ _ _ _ r h => by simp [spec_turn.l0] at h, fun _ _ _ _ _ _ _ _ _ _ r h => by simp [spec_turn.l1] at h⟩
 | k + 1 => by
  obtain ⟨ih0, ih1⟩ := spec_turn.mono_l k
  refine ⟨?_, ?_⟩
  ·intro y0 y1 y2 y3 y4 y5 y6 y7 y8
   unfold spec_turn.l0
   repeat' first | (with_reducible exact ih1 _ _ _ _ _ _ _ _ _ _) | (with_reducible exact LeO.refl _) | (with_reducible refine LeO.ite ?_ ?_)
  intro y0 y1 y2 y3 y4 y5 y6 y7 y8 y9
  unfold spec_turn.l1
  repeat' first | (with_reducible exact ih0 _ _ _ _ _ _ _ _ _) | (with_reducible exact ih1 _ _ _ _ _ _ _ _ _ _) | (with_reducible exact spec_setPixel.mono _ _ _ _ _ _ _ _) | (with_reducible exact LeO.refl _) | (with_reducible refine LeO.ite ?_ ?_) | (with_reducible refine LeO.bind ?_ (fun _ => ?_))
theorem spec_turn.mono : ∀ a0 a1 a2 a3 k, LeO (spec_turn.f k a0 a1 a2 a3) (spec_turn.f (k + 1) a0 a1 a2 a3) := by
 intro a0 a1 a2 a3 k
 obtain ⟨ih0, ih1⟩ := spec_turn.mono_l k
 unfold spec_turn.f
 repeat' first | (with_reducible exact ih0 _ _ _ _ _ _ _ _ _) | (with_reducible exact LeO.refl _) | (with_reducible refine LeO.bind ?_ (fun _ => ?_))
def spec_turn.T8 : Bool × List (List Nat × List Nat) := (true, [([], []), ([], []), ([1], [1]), ([2], [2]), ([], []), ([3, 4], [3, 4]), ([], []), ([], []), ([], []), ([], []), ([7, 8, 9], [7, 8, 9]), ([0, 5, 6, 10, 10], [0, 5, 6, 10])])
def spec_turn.B8 : List Nat := [0, 0, 2, 6, 0, 30, 0, 0, 0, 0, 896, 2047]
theorem spec_turn.tab8 : rtab .any (opsOf Try.f73 8) = spec_turn.T8 := by kernel_rfl
theorem spec_turn.bits8 : waitsOk spec_turn.T8.2 spec_turn.B8 = true := by kernel_rfl
set_option maxHeartbeats 8000000 in
set_option maxRecDepth 100000 in
theorem spec_turn.calls (k : Nat) (a0_0 : Int) (a0_1 : Int) (a0_2 : Int) (A0_3 : Option Addr) (c0_3 : Nat) (l0_3 : List Int) (r1 : Int) (r2 : Int) (r3 : Int) (r4 : List Int) (w : World) (hr0_3 : Kd.C (Kd.int .i64) w A0_3 l0_3.length l0_3) (hc0_3 : l0_3.length ≤ c0_3) (h : spec_turn.f k a0_0 a0_1 a0_2 l0_3 = some (r1, r2, r3, r4)) :
  Calls Try.prog 73 #[.agg #[.int .i64 a0_0, .int .i64 a0_1, .int .i64 a0_2, .slice A0_3 l0_3.length c0_3]] w fun e w' => ∃ v3_ : Value, e = .returned (.agg #[.int .i64 r1, .int .i64 r2, .int .i64 r3, v3_]) ∧ Kd.R (Kd.int .i64) 3 w' w.heap.size (fun _ => True) v3_ r4 ∧ Below w.heap.size w w' := by
 have HR0_3 := mk hr0_3
 have HC0_3 := mk hc0_3
 clear hr0_3 hc0_3
 have HB := mk (Below.refl w.heap.size w)
 have H : ((spec_newImage.f a0_1 a0_0 a0_2).bind fun btz0 => (spec_turn.l0 k 0 a0_0 a0_1 a0_2 l0_3 btz0.1 btz0.2.1 btz0.2.2.1 btz0.2.2.2)) = some (r1, r2, r3, r4) := h
 clear h
 replace H := Option.bind_eq_some_iff.mp H
 obtain ⟨⟨tz0, tz1, tz2, tz5⟩, A20, H⟩ := H
 replace H : (spec_turn.l0 k 0 a0_0 a0_1 a0_2 l0_3 tz0 tz1 tz2 tz5) = some (r1, r2, r3, r4) := H
 have A2 := mk A20
 clear A20
 have H' := mk H
 clear H
 go_enter Try.func73, Try.ntmps73
 go_wp2_with (first | ((with_reducible refine gate_dst (N := 1) rfl ?_); refine box_event (by rfl) (N := 1) (by rfl) (cs := #[.int .i64 a0_0, .int .i64 a0_1, .int .i64 a0_2, .slice A0_3 l0_3.length c0_3]) (t := 28) (by go_simp; done) ?_; intro gbz1 hg w3 hbox hb; replace HB := mk (below_step HB.out hb); have BKz0 := mk (hbox); clear hb hbox hg) | ((with_reducible refine gate_dst (N := 2) rfl ?_); refine box_event (by rfl) (N := 2) (by rfl) (cs := #[.int .i64 0, .int .i64 0, .int .i64 0, .slice none 0 0]) (t := 28) (by go_simp; done) ?_; intro gbz2 hg w4 hbox hb; replace BKz0 := mk (blk_below BKz0.out hb); have BKz2 := mk (hbox); have GEz0 := mk ((by rw [hg]; exact (below_size HB.out) : w.heap.size ≤ gbz2)); replace HB := mk (below_step HB.out hb); clear hb hbox hg; have hcz6_0 : w4.cell? ⟨gbz1, 0, none⟩ = some (.int .i64 a0_0) := (blk_cell BKz0.out 0).trans rfl; have hcz6_1 : w4.cell? ⟨gbz1, 1, none⟩ = some (.int .i64 a0_1) := (blk_cell BKz0.out 1).trans rfl; have hcz6_2 : w4.cell? ⟨gbz1, 2, none⟩ = some (.int .i64 a0_2) := (blk_cell BKz0.out 2).trans rfl; have hcz6_3 : w4.cell? ⟨gbz1, 3, none⟩ = some (.slice A0_3 l0_3.length c0_3) := (blk_cell BKz0.out 3).trans rfl; have hfz6_0 := blk_frozen BKz0.out 0; have hfz6_1 := blk_frozen BKz0.out 1; have hfz6_2 := blk_frozen BKz0.out 2; have hfz6_3 := blk_frozen BKz0.out 3) | ((with_reducible refine gate_callee (f := 96) rfl ?_); refine goesL_ (some 12) rfl rfl Try.func96 (by kernel_rfl) rfl #[.int .i64 a0_1, .int .i64 a0_0, .int .i64 a0_2] rfl (by (try simp only [List.map_toArray, List.map_cons, List.map_nil]); rfl) ?_; (with_reducible refine (spec_newImage.calls a0_1 a0_0 a0_2 tz0 tz1 tz2 tz5 _ A2.out).mono ?_); rintro e w7 ⟨vz0, rfl, ho0, hb⟩; refine ⟨_, rfl, ?_⟩; have HOz2 := mk (Kd.R_lower ho0 (below_size HB.out)); replace BKz0 := mk (blk_below BKz0.out hb); replace BKz2 := mk (blk_below BKz2.out hb); replace HB := mk (below_step HB.out hb); (try clear hb); (try clear ho0)) | ((with_reducible refine gate_dst (N := 3) rfl ?_); refine box_event (by rfl) (N := 3) (by rfl) (cs := #[.int .i64 0, .int .i64 0, .int .i64 0, .slice none 0 0]) (t := 28) (by go_simp; done) ?_; intro gbz0 hg w8 hbox hb; replace HOz2 := mk (Kd.R_below HOz2.out hb); have BKz1 := mk (hbox); have GEz1 := mk ((by rw [hg]; exact (below_size HB.out) : w.heap.size ≤ gbz0)); replace HB := mk (below_step HB.out hb); have NBz0 := mk ((by rw [hg]; exact Nat.ne_of_lt (blk_lt BKz0.out) : gbz1 ≠ gbz0)); replace BKz0 := mk (blk_below BKz0.out hb); have NBz1 := mk ((by rw [hg]; exact Nat.ne_of_lt (blk_lt BKz2.out) : gbz2 ≠ gbz0)); replace BKz2 := mk (blk_below BKz2.out hb); clear hb hbox hg; have hcz11_0 : w8.cell? ⟨gbz0, 0, none⟩ = some (.int .i64 0) := (blk_cell BKz1.out 0).trans rfl; have hcz11_1 : w8.cell? ⟨gbz0, 1, none⟩ = some (.int .i64 0) := (blk_cell BKz1.out 1).trans rfl; have hcz11_2 : w8.cell? ⟨gbz0, 2, none⟩ = some (.int .i64 0) := (blk_cell BKz1.out 2).trans rfl; have hcz11_3 : w8.cell? ⟨gbz0, 3, none⟩ = some (.slice none 0 0) := (blk_cell BKz1.out 3).trans rfl; have hfz11_0 := blk_frozen BKz1.out 0; have hfz11_1 := blk_frozen BKz1.out 1; have hfz11_2 := blk_frozen BKz1.out 2; have hfz11_3 := blk_frozen BKz1.out 3; obtain ⟨Ao12, co12, eo12⟩ := Kd.R_slice HOz2.out; subst eo12))
 go_loopg [4] k (fun kq v4 w' => ∃ (x4_1 : Int) (xz1 : List Int) (u74010003 : Value), v4 = .int .i64 x4_1 ∧ Aside0 (spec_turn.l0 kq x4_1 a0_0 a0_1 a0_2 l0_3 tz0 tz1 tz2 xz1 = some (r1, r2, r3, r4)) ∧ Aside0 (kq ≤ k) ∧ Aside0 (Kd.R (Kd.int .i64) 3 w' w.heap.size (fun _ => True) u74010003 xz1) ∧ Aside0 (w'.heap[gbz1]? = some (.cells #[.int .i64 a0_0, .int .i64 a0_1, .int .i64 a0_2, (.slice A0_3 l0_3.length c0_3)] 28 (0, 0))) ∧ Aside0 (w'.heap[gbz2]? = some (.cells #[.int .i64 0, .int .i64 0, .int .i64 0, (.slice none 0 0)] 28 (0, 0))) ∧ Aside0 (w'.heap[gbz0]? = some (.cells #[.int .i64 tz0, .int .i64 tz1, .int .i64 tz2, u74010003] 28 (0, 0))) ∧ Aside0 (Below w.heap.size w w'))
 case atStart => exact ⟨(0), (tz5), (.slice Ao12 tz5.length co12), (by rfl), H', ⟨Nat.le_refl _⟩, ⟨by (with_reducible repeat (first | apply Kd.R_alloc | apply Kd.R_drewN | apply Kd.R_drew)); exact Kd.R_mono (Kd.R_far (p := ⟨gbz0, 3, none⟩) (Kd.R_far (p := ⟨gbz0, 2, none⟩) (Kd.R_far (p := ⟨gbz0, 1, none⟩) (Kd.R_far (p := ⟨gbz0, 0, none⟩) (Kd.R_types HOz2.out BKz1.out (by decide)) (fun _ hk => hk.2) (.int .i64 tz0)) (fun _ hk => hk.2) (.int .i64 tz1)) (fun _ hk => hk.2) (.int .i64 tz2)) (fun _ hk => hk.2) (.slice Ao12 tz5.length co12)) (fun _ hk => trivial)⟩, ⟨by refine blk_far ?_ NBz0.out _; refine blk_far ?_ NBz0.out _; refine blk_far ?_ NBz0.out _; refine blk_far ?_ NBz0.out _; (with_reducible repeat (first | refine blk_drewN ?_ _ | refine blk_drew ?_ | refine blk_alloc ?_ _)); exact BKz0.out⟩, ⟨by refine blk_far ?_ NBz1.out _; refine blk_far ?_ NBz1.out _; refine blk_far ?_ NBz1.out _; refine blk_far ?_ NBz1.out _; (with_reducible repeat (first | refine blk_drewN ?_ _ | refine blk_drew ?_ | refine blk_alloc ?_ _)); exact BKz2.out⟩, ⟨by refine blk_put (cs := #[.int .i64 tz0, .int .i64 tz1, .int .i64 tz2, .slice none 0 0]) ?_ 3 _ rfl; refine blk_put (cs := #[.int .i64 tz0, .int .i64 tz1, .int .i64 0, .slice none 0 0]) ?_ 2 _ rfl; refine blk_put (cs := #[.int .i64 tz0, .int .i64 0, .int .i64 0, .slice none 0 0]) ?_ 1 _ rfl; refine blk_put (cs := #[.int .i64 0, .int .i64 0, .int .i64 0, .slice none 0 0]) ?_ 0 _ rfl; (with_reducible repeat (first | refine blk_drewN ?_ _ | refine blk_drew ?_ | refine blk_alloc ?_ _)); exact BKz1.out⟩, ⟨by repeat (with_reducible first | exact HB.out | refine below_set ?_ GEz1.out)⟩⟩
 case round =>
  clear H'
  try clear c1
  try clear p2
  try clear c5
  try clear c7
  try clear c9
  try clear c10
  try clear hcz11_0
  try clear hcz11_1
  try clear hcz11_2
  try clear hcz11_3
  try clear hcz6_0
  try clear hcz6_1
  try clear hcz6_2
  try clear hcz6_3
  try clear hfz11_0
  try clear hfz11_1
  try clear hfz11_2
  try clear hfz11_3
  try clear hfz6_0
  try clear hfz6_1
  try clear hfz6_2
  try clear hfz6_3
  obtain ⟨x4_1, xz1, u74010003, rfl, HA, HK1, HOz0, BKz0, BKz2, BKz1, HB⟩ := hrel
  cases gk with
  | zero => exact absurd HA.out (by simp [spec_turn.l0])
  | succ k1 =>
   have H := HA.out
   clear HA
   simp only [spec_turn.l0] at H
   by_cases c13 : x4_1 < a0_1
   ·rw [if_pos c13] at H
    have c13b0 : decide (x4_1 < a0_1) = true := decide_eq_true c13
    clear c13
    have H' := mk H
    clear H
    have hcz16_0 : wr.cell? ⟨gbz1, 0, none⟩ = some (.int .i64 a0_0) := (blk_cell BKz0.out 0).trans rfl
    have hcz16_1 : wr.cell? ⟨gbz1, 1, none⟩ = some (.int .i64 a0_1) := (blk_cell BKz0.out 1).trans rfl
    have hcz16_2 : wr.cell? ⟨gbz1, 2, none⟩ = some (.int .i64 a0_2) := (blk_cell BKz0.out 2).trans rfl
    have hcz16_3 : wr.cell? ⟨gbz1, 3, none⟩ = some (.slice A0_3 l0_3.length c0_3) := (blk_cell BKz0.out 3).trans rfl
    have hfz16_0 := blk_frozen BKz0.out 0
    have hfz16_1 := blk_frozen BKz0.out 1
    have hfz16_2 := blk_frozen BKz0.out 2
    have hfz16_3 := blk_frozen BKz0.out 3
    go_wp2
    go_loopg [5] k1 (fun kq v5 w' => ∃ (x5_2 : Int) (xz0 : List Int) (u74010003 : Value), v5 = .int .i64 x5_2 ∧ Aside0 (spec_turn.l1 kq x4_1 x5_2 a0_0 a0_1 a0_2 l0_3 tz0 tz1 tz2 xz0 = some (r1, r2, r3, r4)) ∧ Aside0 (kq ≤ k1) ∧ Aside0 (Kd.R (Kd.int .i64) 3 w' w.heap.size (fun _ => True) u74010003 xz0) ∧ Aside0 (w'.heap[gbz1]? = some (.cells #[.int .i64 a0_0, .int .i64 a0_1, .int .i64 a0_2, (.slice A0_3 l0_3.length c0_3)] 28 (0, 0))) ∧ Aside0 (w'.heap[gbz2]? = some (.cells #[.int .i64 0, .int .i64 0, .int .i64 0, (.slice none 0 0)] 28 (0, 0))) ∧ Aside0 (w'.heap[gbz0]? = some (.cells #[.int .i64 tz0, .int .i64 tz1, .int .i64 tz2, u74010003] 28 (0, 0))) ∧ Aside0 (Below w.heap.size w w'))
    case atStart => exact ⟨(0), (xz1), (u74010003), (by rfl), H', ⟨Nat.le_refl _⟩, ⟨by (with_reducible repeat (first | apply Kd.R_alloc | apply Kd.R_drewN | apply Kd.R_drew)); exact HOz0.out⟩, ⟨by (with_reducible repeat (first | refine blk_drewN ?_ _ | refine blk_drew ?_ | refine blk_alloc ?_ _)); exact BKz0.out⟩, ⟨by (with_reducible repeat (first | refine blk_drewN ?_ _ | refine blk_drew ?_ | refine blk_alloc ?_ _)); exact BKz2.out⟩, ⟨by (with_reducible repeat (first | refine blk_drewN ?_ _ | refine blk_drew ?_ | refine blk_alloc ?_ _)); exact BKz1.out⟩, ⟨by exact HB.out⟩⟩
    case round =>
     clear H'
     try clear c1
     try clear p2
     try clear c5
     try clear c7
     try clear c9
     try clear c10
     try clear c13
     try clear c13b0
     try clear c14
     try clear c15
     try clear hcz11_0
     try clear hcz11_1
     try clear hcz11_2
     try clear hcz11_3
     try clear hcz16_0
     try clear hcz16_1
     try clear hcz16_2
     try clear hcz16_3
     try clear hcz6_0
     try clear hcz6_1
     try clear hcz6_2
     try clear hcz6_3
     try clear hfz11_0
     try clear hfz11_1
     try clear hfz11_2
     try clear hfz11_3
     try clear hfz16_0
     try clear hfz16_1
     try clear hfz16_2
     try clear hfz16_3
     try clear hfz6_0
     try clear hfz6_1
     try clear hfz6_2
     try clear hfz6_3
     try clear p2
     obtain ⟨x5_2, xz0, u74010003, rfl, HA, HK2, HOz0, BKz0, BKz2, BKz1, HB⟩ := hrel
     cases gk with
     | zero => exact absurd HA.out (by simp [spec_turn.l1])
     | succ k2 =>
      have H := HA.out
      clear HA
      simp only [spec_turn.l1] at H
      by_cases c17 : x5_2 < a0_0
      ·rw [if_pos c17] at H
       have c17b0 : decide (x5_2 < a0_0) = true := decide_eq_true c17
       clear c17
       replace H := Option.bind_eq_some_iff.mp H
       obtain ⟨tz4, A180, H⟩ := H
       replace H : ((spec_setPixel.f k2 tz0 tz1 tz2 xz0 (wrap64 ((wrap64 (a0_1 - 1)) - x4_1)) x5_2 tz4).bind fun tz3 => (spec_turn.l1 k2 x4_1 (wrap64 (x5_2 + 1)) a0_0 a0_1 a0_2 l0_3 tz0 tz1 tz2 tz3)) = some (r1, r2, r3, r4) := H
       have A18 := mk A180
       clear A180
       replace H := Option.bind_eq_some_iff.mp H
       obtain ⟨tz3, A190, H⟩ := H
       replace H : (spec_turn.l1 k2 x4_1 (wrap64 (x5_2 + 1)) a0_0 a0_1 a0_2 l0_3 tz0 tz1 tz2 tz3) = some (r1, r2, r3, r4) := H
       have A19 := mk A190
       clear A190
       have H' := mk H
       clear H
       have hcz22_0 : wr.cell? ⟨gbz1, 0, none⟩ = some (.int .i64 a0_0) := (blk_cell BKz0.out 0).trans rfl
       try go_wp2
       have n0_ := mk (Kd.R_drew HOz0.out)
       have n1_ := mk (blk_drew BKz0.out)
       have n2_ := mk (blk_drew BKz2.out)
       have n3_ := mk (blk_drew BKz1.out)
       have n4_ := mk (below_drew1 HB.out)
       clear HOz0 BKz0 BKz2 BKz1 HB
       revert n0_ n1_ n2_ n3_ n4_; intro HOz0 BKz0 BKz2 BKz1 HB
       refine start_ (n := 12) (S := fun w' => w'.cell? ⟨gbz0, 0, none⟩ = some (.int .i64 tz0) ∧ w'.cell? ⟨gbz0, 1, none⟩ = some (.int .i64 tz1) ∧ w'.cell? ⟨gbz0, 2, none⟩ = some (.int .i64 tz2) ∧ w'.cell? ⟨gbz0, 3, none⟩ = some u74010003 ∧ w'.cell? ⟨gbz1, 0, none⟩ = some (.int .i64 a0_0) ∧ w'.cell? ⟨gbz1, 1, none⟩ = some (.int .i64 a0_1) ∧ w'.cell? ⟨gbz1, 2, none⟩ = some (.int .i64 a0_2) ∧ w'.cell? ⟨gbz1, 3, none⟩ = some (.slice A0_3 l0_3.length c0_3)) (ds := []) #[false, false, false, false, false, false, false, false, false, false, false, false] (by kernel_rfl) rfl rfl ⟨(blk_cell BKz1.out 0).trans rfl, (blk_cell BKz1.out 1).trans rfl, (blk_cell BKz1.out 2).trans rfl, (blk_cell BKz1.out 3).trans rfl, (blk_cell BKz0.out 0).trans rfl, (blk_cell BKz0.out 1).trans rfl, (blk_cell BKz0.out 2).trans rfl, (blk_cell BKz0.out 3).trans rfl⟩ (fun hHeld => ?_); refine with_tabW spec_turn.tab8 spec_turn.bits8 (fun HT_ HW_ => ?_)
       generalize wr.drew = w23 at HOz0 BKz0 BKz2 BKz1 HB hHeld ⊢
       refine pure_ (i := 1) (N := some 26) (v := ?_) (a' := ?_) #[false, true, false, false, false, false, false, false, false, false, false, false] rfl rfl (any_of HT_.out (by kernel_rfl)) (fun _ _ _ h => h) (Or.inl ⟨by rfl, ?_⟩) ?_ ?_
       rotate_left
       ·intro w'
        go_simp
        with_reducible rfl
       rotate_left
       ·simp only [Act.put, List.setIfInBounds_toArray, List.set_cons_zero, List.set_cons_succ, i64_w, i32_w]
        rfl
       refine pure_ (i := 4) (N := some 29) (v := ?_) (a' := ?_) #[false, true, false, false, true, false, false, false, false, false, false, false] rfl rfl (any_of HT_.out (by kernel_rfl)) (fun _ _ _ h => h) (Or.inl ⟨by rfl, ?_⟩) ?_ ?_
       rotate_left
       ·intro w'
        go_simp
        with_reducible rfl
       rotate_left
       ·simp only [Act.put, List.setIfInBounds_toArray, List.set_cons_zero, List.set_cons_succ, i64_w, i32_w]
        rfl
       refine pure_ (i := 6) (N := some 31) (v := ?_) (a' := ?_) #[false, true, false, false, true, false, true, false, false, false, false, false] rfl rfl (any_of HT_.out (by kernel_rfl)) (fun _ _ _ h => h) (Or.inl ⟨by rfl, ?_⟩) ?_ ?_
       rotate_left
       ·intro w'
        go_simp
        with_reducible rfl
       rotate_left
       ·simp only [Act.put, List.setIfInBounds_toArray, List.set_cons_zero, List.set_cons_succ, i64_w, i32_w]
        rfl
       refine pure_ (i := 8) (N := some 33) (v := ?_) (a' := ?_) #[false, true, false, false, true, false, true, false, true, false, false, false] rfl rfl (any_of HT_.out (by kernel_rfl)) (fun _ _ _ h => h) (Or.inl ⟨by rfl, ?_⟩) ?_ ?_
       rotate_left
       ·intro w'
        go_simp
        with_reducible rfl
       rotate_left
       ·simp only [Act.put, List.setIfInBounds_toArray, List.set_cons_zero, List.set_cons_succ, i64_w, i32_w]
        rfl
       refine pure_ (i := 9) (N := some 34) (v := ?_) (a' := ?_) #[false, true, false, false, true, false, true, false, true, true, false, false] rfl rfl (any_of HT_.out (by kernel_rfl)) (fun _ _ _ h => h) (Or.inl ⟨by rfl, ?_⟩) ?_ ?_
       rotate_left
       ·intro w'
        go_simp
        with_reducible rfl
       rotate_left
       ·simp only [Act.put, List.setIfInBounds_toArray, List.set_cons_zero, List.set_cons_succ, i64_w, i32_w]
        rfl
       refine take_ (i := 0) (N := some 25) (v := ?_) (a' := ?_) #[true, true, false, false, true, false, true, false, true, true, false, false] rfl rfl (take_ofW HT_.out HW_.out (by kernel_rfl)) (fun _ _ _ h => h) (Or.inl ⟨by rfl, ?_⟩) hHeld ?_ ?_
       rotate_left
       ·rintro w' ⟨s0, s1, s2, s3, s4, s5, s6, s7⟩
        go_simp
        with_reducible rfl
       rotate_left
       ·simp only [Act.put, List.setIfInBounds_toArray, List.set_cons_zero, List.set_cons_succ, i64_w, i32_w]
        rfl
       refine take_ (i := 2) (N := some 27) (v := ?_) (a' := ?_) #[true, true, true, false, true, false, true, false, true, true, false, false] rfl rfl (take_ofW HT_.out HW_.out (by kernel_rfl)) (fun _ _ _ h => h) (Or.inl ⟨by rfl, ?_⟩) hHeld ?_ ?_
       rotate_left
       ·rintro w' ⟨s0, s1, s2, s3, s4, s5, s6, s7⟩
        go_simp
        with_reducible rfl
       rotate_left
       ·simp only [Act.put, List.setIfInBounds_toArray, List.set_cons_zero, List.set_cons_succ, i64_w, i32_w]
        rfl
       refine pure_ (i := 3) (N := some 28) (v := ?_) (a' := ?_) #[true, true, true, true, true, false, true, false, true, true, false, false] rfl rfl (any_of HT_.out (by kernel_rfl)) (fun _ _ _ h => h) (Or.inl ⟨by rfl, ?_⟩) ?_ ?_
       rotate_left
       ·intro w'
        go_simp
        with_reducible rfl
       rotate_left
       ·simp only [Act.put, List.setIfInBounds_toArray, List.set_cons_zero, List.set_cons_succ, i64_w, i32_w]
        rfl
       refine pure_ (i := 5) (N := some 30) (v := ?_) (a' := ?_) #[true, true, true, true, true, true, true, false, true, true, false, false] rfl rfl (any_of HT_.out (by kernel_rfl)) (fun _ _ _ h => h) (Or.inl ⟨by rfl, ?_⟩) ?_ ?_
       rotate_left
       ·intro w'
        go_simp
        with_reducible rfl
       rotate_left
       ·simp only [Act.put, List.setIfInBounds_toArray, List.set_cons_zero, List.set_cons_succ, i64_w, i32_w]
        rfl
       refine take_ (i := 7) (N := some 32) (v := ?_) (a' := ?_) #[true, true, true, true, true, true, true, true, true, true, false, false] rfl rfl (take_ofW HT_.out HW_.out (by kernel_rfl)) (fun _ _ _ h => h) (Or.inl ⟨by rfl, ?_⟩) hHeld ?_ ?_
       rotate_left
       ·rintro w' ⟨s0, s1, s2, s3, s4, s5, s6, s7⟩
        go_simp
        with_reducible rfl
       rotate_left
       ·simp only [Act.put, List.setIfInBounds_toArray, List.set_cons_zero, List.set_cons_succ, i64_w, i32_w]
        rfl
       refine one_ (i := 10) (N := some 35) #[true, true, true, true, true, true, true, true, true, true, true, false] rfl rfl (one_of HT_.out (by kernel_rfl)) (by decide) (fun K hK => ?_)
       refine goes_ Try.func95 (by kernel_rfl) rfl #[.agg #[.int .i64 a0_0, .int .i64 a0_1, .int .i64 a0_2, .slice A0_3 l0_3.length c0_3], .int .i64 x5_2, .int .i64 x4_1] (by rfl) rfl rfl (by (try simp only [List.map_toArray, List.map_cons, List.map_nil]); rfl) ?_
       with_reducible refine (spec_pixelAt.calls a0_0 a0_1 a0_2 _ _ l0_3 x5_2 x4_1 tz4 _ ?side1 ?side2 A18.out).mono ?_
       (case side1 => repeat (exact (Kd.C_below HR0_3.out HB.out)))
       (case side2 => exact HC0_3.out)
       rintro e w24 ⟨vz1, rfl, ho0, hb⟩
       refine ⟨_, rfl, ?_⟩
       have n0_ := mk (Kd.R_elder' HOz0.out (Kd.R_base ho0) hb)
       have n1_ := mk (Kd.R_lower (Kd.R_new' ho0 (Kd.R_lt HOz0.out)) (below_size HB.out))
       have n2_ := mk (blk_below BKz0.out hb)
       have n3_ := mk (blk_below BKz2.out hb)
       have n4_ := mk (blk_below BKz1.out hb)
       have n5_ := mk (below_step HB.out hb)
       clear HOz0 BKz0 BKz2 BKz1 HB
       revert n0_ n1_ n2_ n3_ n4_ n5_; intro HOz0 HOz1 BKz0 BKz2 BKz1 HB
       (try clear hb)
       (try clear ho0)
       obtain ⟨Ao25, co25, eo25⟩ := Kd.R_slice HOz0.out
       (subst eo25)
       obtain ⟨Ao26, co26, eo26⟩ := Kd.R_slice HOz1.out
       (subst eo26)
       refine hK.out _ _ ⟨(blk_cell BKz1.out 0).trans rfl, (blk_cell BKz1.out 1).trans rfl, (blk_cell BKz1.out 2).trans rfl, (blk_cell BKz1.out 3).trans rfl, (blk_cell BKz0.out 0).trans rfl, (blk_cell BKz0.out 1).trans rfl, (blk_cell BKz0.out 2).trans rfl, (blk_cell BKz0.out 3).trans rfl⟩ (fun hHeld => ?_)
       clear hK K
       refine norm_ (a' := ?_) ?_ ?_
       rotate_left
       ·show Act.put _ (some 35) _ = _
        simp only [Act.put, List.setIfInBounds_toArray, List.set_cons_zero, List.set_cons_succ, i64_w, i32_w]
        rfl
       refine one_ (i := 11) (N := some 36) #[true, true, true, true, true, true, true, true, true, true, true, true] rfl rfl (one_of HT_.out (by kernel_rfl)) (by decide) (fun K hK => ?_)
       refine goes_ Try.func94 (by kernel_rfl) rfl #[.agg #[.int .i64 tz0, .int .i64 tz1, .int .i64 tz2, .slice Ao25 xz0.length co25], .int .i64 (wrap64 ((wrap64 (a0_1 - 1)) - x4_1)), .int .i64 x5_2, .slice Ao26 tz4.length co26] (by rfl) rfl rfl (by (try simp only [List.map_toArray, List.map_cons, List.map_nil]); rfl) ?_
       with_reducible refine (spec_setPixel.calls k2 tz0 tz1 tz2 (fun k_ => some k_ = (.slice Ao25 xz0.length co25 : Value).ownBlock) (.slice Ao25 xz0.length co25) xz0 (wrap64 ((wrap64 (a0_1 - 1)) - x4_1)) x5_2 _ _ tz4 tz3 w _ ?side1 ?side2 ?side3 ?side4 A19.out).mono ?_
       (case side1 => repeat (with_reducible exact HB.out))
       (case side2 => exact Kd.R_tight rfl HOz0.out)
       (case side3 => exact Kd.C_kept_own HOz1.out (fun k_ hk_ hs_ => hk_.2 hs_))
       (case side4 => exact (Kd.R_reads' HOz1.out).2.1)
       rintro e w27 ⟨rfl, hy0, hb, hkp⟩
       refine ⟨_, rfl, ?_⟩
       have n0_ := mk (Kd.R_reok rfl hy0 (fun k_ e_ => HOz0.out.1 k_ e_))
       have n1_ := mk (blk_kept BKz0.out hkp (fun hs_ => (fun e_ => (Kd.R_ne HOz0.out BKz0.out (by decide)) e_) hs_))
       have n2_ := mk (blk_kept BKz2.out hkp (fun hs_ => (fun e_ => (Kd.R_ne HOz0.out BKz2.out (by decide)) e_) hs_))
       have n3_ := mk (blk_kept BKz1.out hkp (fun hs_ => (fun e_ => (Kd.R_ne HOz0.out BKz1.out (by decide)) e_) hs_))
       have n4_ := mk (Kd.R_mono (ok' := fun k_ => some k_ ≠ (.slice Ao25 xz0.length co25 : Value).ownBlock) (Kd.R_keptB HOz1.out hkp (fun k_ hk_ hs_ => hk_.2 hs_)) (fun k_ hk_ => hk_.1.2))
       have n5_ := mk (hb)
       clear HOz0 BKz0 BKz2 BKz1 HOz1 HB
       revert n0_ n1_ n2_ n3_ n4_ n5_; intro HOz0 BKz0 BKz2 BKz1 HOz1 HB
       (try clear hb)
       (try clear hkp)
       (try clear hy0)
       refine hK.out _ _ ⟨(blk_cell BKz1.out 0).trans rfl, (blk_cell BKz1.out 1).trans rfl, (blk_cell BKz1.out 2).trans rfl, (blk_cell BKz1.out 3).trans rfl, (blk_cell BKz0.out 0).trans rfl, (blk_cell BKz0.out 1).trans rfl, (blk_cell BKz0.out 2).trans rfl, (blk_cell BKz0.out 3).trans rfl⟩ (fun hHeld => ?_)
       clear hK K
       refine norm_ (a' := ?_) ?_ ?_
       rotate_left
       ·show Act.put _ (some 36) _ = _
        simp only [Act.put, List.setIfInBounds_toArray, List.set_cons_zero, List.set_cons_succ, i64_w, i32_w]
        rfl
       refine done_ (done_of HT_.out (by kernel_rfl)) ?_
       try go_wp2
       go_roundg k2
       case measure => have := HK1.out; have := HK2.out; omega
       case rel => exact ⟨(wrap64 (x5_2 + 1)), (tz3), (.slice Ao25 xz0.length co25), (by rfl), H', ⟨by have := HK1.out; have := HK2.out; omega⟩, ⟨by (with_reducible repeat (first | apply Kd.R_alloc | apply Kd.R_drewN | apply Kd.R_drew)); exact Kd.R_mono HOz0.out (fun _ hk => trivial)⟩, ⟨by (with_reducible repeat (first | refine blk_drewN ?_ _ | refine blk_drew ?_ | refine blk_alloc ?_ _)); exact BKz0.out⟩, ⟨by (with_reducible repeat (first | refine blk_drewN ?_ _ | refine blk_drew ?_ | refine blk_alloc ?_ _)); exact BKz2.out⟩, ⟨by (with_reducible repeat (first | refine blk_drewN ?_ _ | refine blk_drew ?_ | refine blk_alloc ?_ _)); exact BKz1.out⟩, ⟨by exact HB.out⟩⟩
      rw [if_neg c17] at H
      have c17b0 : decide (x5_2 < a0_0) = false := decide_eq_false c17
      clear c17
      have H' := mk H
      clear H
      have hcz30_0 : wr.cell? ⟨gbz1, 0, none⟩ = some (.int .i64 a0_0) := (blk_cell BKz0.out 0).trans rfl
      go_wp2
      go_roundg k2
      case measure => have := HK1.out; have := HK2.out; omega
      case rel => exact ⟨(wrap64 (x4_1 + 1)), (xz0), (u74010003), (by rfl), H', ⟨by have := HK1.out; have := HK2.out; omega⟩, ⟨by (with_reducible repeat (first | apply Kd.R_alloc | apply Kd.R_drewN | apply Kd.R_drew)); exact HOz0.out⟩, ⟨by (with_reducible repeat (first | refine blk_drewN ?_ _ | refine blk_drew ?_ | refine blk_alloc ?_ _)); exact BKz0.out⟩, ⟨by (with_reducible repeat (first | refine blk_drewN ?_ _ | refine blk_drew ?_ | refine blk_alloc ?_ _)); exact BKz2.out⟩, ⟨by (with_reducible repeat (first | refine blk_drewN ?_ _ | refine blk_drew ?_ | refine blk_alloc ?_ _)); exact BKz1.out⟩, ⟨by exact HB.out⟩⟩
   rw [if_neg c13] at H
   have c13b0 : decide (x4_1 < a0_1) = false := decide_eq_false c13
   clear c13
   simp only [Option.some.injEq, Prod.mk.injEq] at H
   obtain ⟨rfl, rfl, rfl, rfl⟩ := H
   have hcz33_1 : wr.cell? ⟨gbz1, 1, none⟩ = some (.int .i64 a0_1) := (blk_cell BKz0.out 1).trans rfl
   have hcz35_0 : wr.cell? ⟨gbz0, 0, none⟩ = some (.int .i64 tz0) := (blk_cell BKz1.out 0).trans rfl
   have hcz35_1 : wr.cell? ⟨gbz0, 1, none⟩ = some (.int .i64 tz1) := (blk_cell BKz1.out 1).trans rfl
   have hcz35_2 : wr.cell? ⟨gbz0, 2, none⟩ = some (.int .i64 tz2) := (blk_cell BKz1.out 2).trans rfl
   have hcz35_3 : wr.cell? ⟨gbz0, 3, none⟩ = some u74010003 := (blk_cell BKz1.out 3).trans rfl
   have hcz36_0 : wr.cell? ⟨gbz2, 0, none⟩ = some (.int .i64 0) := (blk_cell BKz2.out 0).trans rfl
   have hcz36_1 : wr.cell? ⟨gbz2, 1, none⟩ = some (.int .i64 0) := (blk_cell BKz2.out 1).trans rfl
   have hcz36_2 : wr.cell? ⟨gbz2, 2, none⟩ = some (.int .i64 0) := (blk_cell BKz2.out 2).trans rfl
   have hcz36_3 : wr.cell? ⟨gbz2, 3, none⟩ = some (.slice none 0 0) := (blk_cell BKz2.out 3).trans rfl
   have hfz36_0 := blk_frozen BKz2.out 0
   have hfz36_1 := blk_frozen BKz2.out 1
   have hfz36_2 := blk_frozen BKz2.out 2
   have hfz36_3 := blk_frozen BKz2.out 3
   obtain ⟨Ao37, co37, eo37⟩ := Kd.R_slice HOz0.out
   subst eo37
   go_wp2
   refine bodyPost_ret (results_cell_row rfl _ _ gbz2 28 #[.int .i64 tz0, .int .i64 tz1, .int .i64 tz2, .slice Ao37 xz1.length co37] (0, 0) _ rfl (by refine blk_put (cs := #[.int .i64 tz0, .int .i64 tz1, .int .i64 tz2, .slice none 0 0]) ?_ 3 _ rfl; refine blk_put (cs := #[.int .i64 tz0, .int .i64 tz1, .int .i64 0, .slice none 0 0]) ?_ 2 _ rfl; refine blk_put (cs := #[.int .i64 tz0, .int .i64 0, .int .i64 0, .slice none 0 0]) ?_ 1 _ rfl; refine blk_put (cs := #[.int .i64 0, .int .i64 0, .int .i64 0, .slice none 0 0]) ?_ 0 _ rfl; (with_reducible repeat (first | refine blk_drewN ?_ _ | refine blk_drew ?_ | refine blk_alloc ?_ _)); exact BKz2.out) Try.underlying28 rfl (by kernel_rfl)) rfl ?_
   exact ⟨_, by rfl, by (with_reducible repeat (first | apply Kd.R_alloc | apply Kd.R_drewN | apply Kd.R_drew)); exact Kd.R_mono (Kd.R_far (p := ⟨gbz2, 3, none⟩) (Kd.R_far (p := ⟨gbz2, 2, none⟩) (Kd.R_far (p := ⟨gbz2, 1, none⟩) (Kd.R_far (p := ⟨gbz2, 0, none⟩) (Kd.R_types HOz0.out BKz2.out (by decide)) (fun _ hk => hk.2) (.int .i64 tz0)) (fun _ hk => hk.2) (.int .i64 tz1)) (fun _ hk => hk.2) (.int .i64 tz2)) (fun _ hk => hk.2) (.slice Ao37 xz1.length co37)) (fun _ hk => trivial), by repeat (with_reducible first | exact HB.out | refine below_set ?_ GEz0.out)⟩


def spec_InvertImage.l0 : Nat → Int → Int → Int → Int → List Int → Int → Int → Int → List Int → Option (Int × Int × Int × List Int)
 | 0, _, _, _, _, _, _, _, _, _ => none
 | k + 1, x4, xz6, xz7, xz8, xz1, xz3, xz4, xz5, xz2 => if x4 < (xz2.length : Int) then (if 0 ≤ x4 then (if x4 < (xz1.length : Int) then (spec_InvertImage.l0 k (wrap64 (x4 + 1)) xz6 xz7 xz8 xz1 xz3 xz4 xz5 (xz2.set (x4 : Int).toNat (wrap64 (255 - (rd xz1 x4))))) else none) else none) else (some (xz3, xz4, xz5, xz2))
def spec_InvertImage.f (k : Nat) (a0_0 : Int) (a0_1 : Int) (a0_2 : Int) (l0_3 : List Int) : Option (Int × Int × Int × List Int) := (spec_validImage.f k a0_0 a0_1 a0_2 l0_3).bind fun tz3 => (if tz3 = true then ((spec_copyImage.f a0_0 a0_1 a0_2 l0_3).bind fun btz0 => (spec_InvertImage.l0 k 0 a0_0 a0_1 a0_2 l0_3 btz0.1 btz0.2.1 btz0.2.2.1 btz0.2.2.2)) else (some (0, 0, 0, ([] : List Int))))
theorem spec_InvertImage.mono_l : ∀ k, (∀ y0 y1 y2 y3 y4 y5 y6 y7 y8, LeO (spec_InvertImage.l0 k y0 y1 y2 y3 y4 y5 y6 y7 y8) (spec_InvertImage.l0 (k + 1) y0 y1 y2 y3 y4 y5 y6 y7 y8))
 | 0 => fun _ _ _ _ _ _ _ _ _ r h => by simp [spec_InvertImage.l0] at h
 | k + 1 => by
  have ih0 := spec_InvertImage.mono_l k
  ·intro y0 y1 y2 y3 y4 y5 y6 y7 y8
   unfold spec_InvertImage.l0
   repeat' first | (with_reducible exact ih0 _ _ _ _ _ _ _ _ _) | (with_reducible exact LeO.refl _) | (with_reducible refine LeO.ite ?_ ?_)
theorem spec_InvertImage.mono : ∀ a0 a1 a2 a3 k, LeO (spec_InvertImage.f k a0 a1 a2 a3) (spec_InvertImage.f (k + 1) a0 a1 a2 a3) := by
 intro a0 a1 a2 a3 k
 have ih0 := spec_InvertImage.mono_l k
 unfold spec_InvertImage.f
 repeat' first | (with_reducible exact ih0 _ _ _ _ _ _ _ _ _) | (with_reducible exact spec_validImage.mono _ _ _ _ _) | (with_reducible exact LeO.refl _) | (with_reducible refine LeO.ite ?_ ?_) | (with_reducible refine LeO.bind ?_ (fun _ => ?_))
def spec_InvertImage.T7 : Bool × List (List Nat × List Nat) := (true, [([], []), ([0], [0]), ([], []), ([], []), ([3], [3]), ([], []), ([4, 5], [4, 5]), ([6], [6]), ([7], [7]), ([1, 2, 0, 1, 2, 3, 4, 5, 6, 7, 8], [1, 2]), ([9, 8, 0, 1, 2, 3, 4, 5, 6, 7, 8], [8, 9])])
def spec_InvertImage.B7 : List Nat := [0, 1, 0, 0, 8, 0, 56, 120, 248, 511, 1023]
theorem spec_InvertImage.tab7 : rtab .any (opsOf Try.f74 7) = spec_InvertImage.T7 := by kernel_rfl
theorem spec_InvertImage.bits7 : waitsOk spec_InvertImage.T7.2 spec_InvertImage.B7 = true := by kernel_rfl
set_option maxHeartbeats 8000000 in
set_option maxRecDepth 100000 in
theorem spec_InvertImage.calls (k : Nat) (a0_0 : Int) (a0_1 : Int) (a0_2 : Int) (A0_3 : Option Addr) (c0_3 : Nat) (l0_3 : List Int) (r1 : Int) (r2 : Int) (r3 : Int) (r4 : List Int) (w : World) (hr0_3 : Kd.C (Kd.int .i64) w A0_3 l0_3.length l0_3) (hc0_3 : l0_3.length ≤ c0_3) (h : spec_InvertImage.f k a0_0 a0_1 a0_2 l0_3 = some (r1, r2, r3, r4)) :
  Calls Try.prog 74 #[.agg #[.int .i64 a0_0, .int .i64 a0_1, .int .i64 a0_2, .slice A0_3 l0_3.length c0_3]] w fun e w' => ∃ v3_ : Value, e = .returned (.agg #[.int .i64 r1, .int .i64 r2, .int .i64 r3, v3_]) ∧ Kd.R (Kd.int .i64) 3 w' w.heap.size (fun _ => True) v3_ r4 ∧ Below w.heap.size w w' := by
 have hu28 := Try.underlying28
 have HR0_3 := mk hr0_3
 have HC0_3 := mk hc0_3
 clear hr0_3 hc0_3
 have HB := mk (Below.refl w.heap.size w)
 have H : ((spec_validImage.f k a0_0 a0_1 a0_2 l0_3).bind fun tz3 => (if tz3 = true then ((spec_copyImage.f a0_0 a0_1 a0_2 l0_3).bind fun btz0 => (spec_InvertImage.l0 k 0 a0_0 a0_1 a0_2 l0_3 btz0.1 btz0.2.1 btz0.2.2.1 btz0.2.2.2)) else (some (0, 0, 0, ([] : List Int))))) = some (r1, r2, r3, r4) := h
 clear h
 replace H := Option.bind_eq_some_iff.mp H
 obtain ⟨tz3, A20, H⟩ := H
 replace H : (if tz3 = true then ((spec_copyImage.f a0_0 a0_1 a0_2 l0_3).bind fun btz0 => (spec_InvertImage.l0 k 0 a0_0 a0_1 a0_2 l0_3 btz0.1 btz0.2.1 btz0.2.2.1 btz0.2.2.2)) else (some (0, 0, 0, ([] : List Int)))) = some (r1, r2, r3, r4) := H
 have A2 := mk A20
 clear A20
 by_cases c3 : tz3 = true
 ·subst c3
  have H1 : ((spec_copyImage.f a0_0 a0_1 a0_2 l0_3).bind fun btz0 => (spec_InvertImage.l0 k 0 a0_0 a0_1 a0_2 l0_3 btz0.1 btz0.2.1 btz0.2.2.1 btz0.2.2.2)) = some (r1, r2, r3, r4) := by rw [if_pos rfl] at H; exact H
  clear H
  have H := H1
  clear H1
  replace H := Option.bind_eq_some_iff.mp H
  obtain ⟨⟨tz0, tz1, tz2, tz4⟩, A40, H⟩ := H
  replace H : (spec_InvertImage.l0 k 0 a0_0 a0_1 a0_2 l0_3 tz0 tz1 tz2 tz4) = some (r1, r2, r3, r4) := H
  have A4 := mk A40
  clear A40
  have H' := mk H
  clear H
  go_enter Try.func74, Try.ntmps74
  go_wp2_with (first | ((with_reducible refine gate_dst (N := 1) rfl ?_); refine box_event (by rfl) (N := 1) (by rfl) (cs := #[.int .i64 a0_0, .int .i64 a0_1, .int .i64 a0_2, .slice A0_3 l0_3.length c0_3]) (t := 28) (by go_simp; done) ?_; intro gbz1 hg w5 hbox hb; replace HB := mk (below_step HB.out hb); have BKz0 := mk (hbox); clear hb hbox hg) | ((with_reducible refine gate_dst (N := 2) rfl ?_); refine box_event (by rfl) (N := 2) (by rfl) (cs := #[.int .i64 0, .int .i64 0, .int .i64 0, .slice none 0 0]) (t := 28) (by go_simp; done) ?_; intro gbz2 hg w6 hbox hb; replace BKz0 := mk (blk_below BKz0.out hb); have BKz1 := mk (hbox); have GEz0 := mk ((by rw [hg]; exact (below_size HB.out) : w.heap.size ≤ gbz2)); replace HB := mk (below_step HB.out hb); clear hb hbox hg; have hcz8_0 : w6.cell? ⟨gbz1, 0, none⟩ = some (.int .i64 a0_0) := (blk_cell BKz0.out 0).trans rfl; have hcz8_1 : w6.cell? ⟨gbz1, 1, none⟩ = some (.int .i64 a0_1) := (blk_cell BKz0.out 1).trans rfl; have hcz8_2 : w6.cell? ⟨gbz1, 2, none⟩ = some (.int .i64 a0_2) := (blk_cell BKz0.out 2).trans rfl; have hcz8_3 : w6.cell? ⟨gbz1, 3, none⟩ = some (.slice A0_3 l0_3.length c0_3) := (blk_cell BKz0.out 3).trans rfl; have hfz8_0 := blk_frozen BKz0.out 0; have hfz8_1 := blk_frozen BKz0.out 1; have hfz8_2 := blk_frozen BKz0.out 2; have hfz8_3 := blk_frozen BKz0.out 3) | ((with_reducible refine gate_callee (f := 39) rfl ?_); refine goesL_ (some 6) rfl rfl Try.func39 (by kernel_rfl) rfl #[.agg #[.int .i64 a0_0, .int .i64 a0_1, .int .i64 a0_2, .slice A0_3 l0_3.length c0_3]] rfl (by (try simp only [List.map_toArray, List.map_cons, List.map_nil]); rfl) ?_; (with_reducible refine (spec_validImage.calls k a0_0 a0_1 a0_2 _ _ l0_3 true _ ?side1 ?side2 A2.out).mono ?_); (case side1 => repeat (exact (Kd.C_below HR0_3.out HB.out))); (case side2 => exact HC0_3.out); rintro e w9 ⟨rfl, hb⟩; refine ⟨_, rfl, ?_⟩; replace BKz0 := mk (blk_below BKz0.out hb); replace BKz1 := mk (blk_below BKz1.out hb); replace HB := mk (below_step HB.out hb); (try clear hb); have hcz10_0 : w9.cell? ⟨gbz1, 0, none⟩ = some (.int .i64 a0_0) := (blk_cell BKz0.out 0).trans rfl; have hcz10_1 : w9.cell? ⟨gbz1, 1, none⟩ = some (.int .i64 a0_1) := (blk_cell BKz0.out 1).trans rfl; have hcz10_2 : w9.cell? ⟨gbz1, 2, none⟩ = some (.int .i64 a0_2) := (blk_cell BKz0.out 2).trans rfl; have hcz10_3 : w9.cell? ⟨gbz1, 3, none⟩ = some (.slice A0_3 l0_3.length c0_3) := (blk_cell BKz0.out 3).trans rfl; have hfz10_0 := blk_frozen BKz0.out 0; have hfz10_1 := blk_frozen BKz0.out 1; have hfz10_2 := blk_frozen BKz0.out 2; have hfz10_3 := blk_frozen BKz0.out 3) | ((with_reducible refine gate_callee (f := 40) rfl ?_); refine goesL_ (some 10) rfl rfl Try.func40 (by kernel_rfl) rfl #[.agg #[.int .i64 a0_0, .int .i64 a0_1, .int .i64 a0_2, .slice A0_3 l0_3.length c0_3]] rfl (by (try simp only [List.map_toArray, List.map_cons, List.map_nil]); rfl) ?_; (with_reducible refine (spec_copyImage.calls a0_0 a0_1 a0_2 _ _ l0_3 tz0 tz1 tz2 tz4 _ ?side1 ?side2 A4.out).mono ?_); (case side1 => repeat (exact (Kd.C_below HR0_3.out HB.out))); (case side2 => exact HC0_3.out); rintro e w11 ⟨vz0, rfl, ho0, hb⟩; refine ⟨_, rfl, ?_⟩; have HOz1 := mk (Kd.R_lower ho0 (below_size HB.out)); replace BKz0 := mk (blk_below BKz0.out hb); replace BKz1 := mk (blk_below BKz1.out hb); replace HB := mk (below_step HB.out hb); (try clear hb); (try clear ho0)) | ((with_reducible refine gate_dst (N := 3) rfl ?_); refine box_event (by rfl) (N := 3) (by rfl) (cs := #[.int .i64 0, .int .i64 0, .int .i64 0, .slice none 0 0]) (t := 28) (by go_simp; done) ?_; intro gbz0 hg w12 hbox hb; replace HOz1 := mk (Kd.R_below HOz1.out hb); have BKz2 := mk (hbox); have GEz1 := mk ((by rw [hg]; exact (below_size HB.out) : w.heap.size ≤ gbz0)); replace HB := mk (below_step HB.out hb); have NBz0 := mk ((by rw [hg]; exact Nat.ne_of_lt (blk_lt BKz0.out) : gbz1 ≠ gbz0)); replace BKz0 := mk (blk_below BKz0.out hb); have NBz1 := mk ((by rw [hg]; exact Nat.ne_of_lt (blk_lt BKz1.out) : gbz2 ≠ gbz0)); replace BKz1 := mk (blk_below BKz1.out hb); clear hb hbox hg; have hcz15_0 : w12.cell? ⟨gbz0, 0, none⟩ = some (.int .i64 0) := (blk_cell BKz2.out 0).trans rfl; have hcz15_1 : w12.cell? ⟨gbz0, 1, none⟩ = some (.int .i64 0) := (blk_cell BKz2.out 1).trans rfl; have hcz15_2 : w12.cell? ⟨gbz0, 2, none⟩ = some (.int .i64 0) := (blk_cell BKz2.out 2).trans rfl; have hcz15_3 : w12.cell? ⟨gbz0, 3, none⟩ = some (.slice none 0 0) := (blk_cell BKz2.out 3).trans rfl; have hfz15_0 := blk_frozen BKz2.out 0; have hfz15_1 := blk_frozen BKz2.out 1; have hfz15_2 := blk_frozen BKz2.out 2; have hfz15_3 := blk_frozen BKz2.out 3; obtain ⟨Ao16, co16, eo16⟩ := Kd.R_slice HOz1.out; subst eo16))
  go_loopg [4] k (fun kq v4 w' => ∃ (x4_1 : Int) (xz0 : List Int) (u75011003 : Value), v4 = .int .i64 x4_1 ∧ Aside0 (spec_InvertImage.l0 kq x4_1 a0_0 a0_1 a0_2 l0_3 tz0 tz1 tz2 xz0 = some (r1, r2, r3, r4)) ∧ Aside0 (kq ≤ k) ∧ Aside0 (Kd.R (Kd.int .i64) 3 w' w.heap.size (fun _ => True) u75011003 xz0) ∧ Aside0 (w'.heap[gbz1]? = some (.cells #[.int .i64 a0_0, .int .i64 a0_1, .int .i64 a0_2, (.slice A0_3 l0_3.length c0_3)] 28 (0, 0))) ∧ Aside0 (w'.heap[gbz2]? = some (.cells #[.int .i64 0, .int .i64 0, .int .i64 0, (.slice none 0 0)] 28 (0, 0))) ∧ Aside0 (w'.heap[gbz0]? = some (.cells #[.int .i64 tz0, .int .i64 tz1, .int .i64 tz2, u75011003] 28 (0, 0))) ∧ Aside0 (Below w.heap.size w w'))
  case atStart => exact ⟨(0), (tz4), (.slice Ao16 tz4.length co16), (by rfl), H', ⟨Nat.le_refl _⟩, ⟨by (with_reducible repeat (first | apply Kd.R_alloc | apply Kd.R_drewN | apply Kd.R_drew)); exact Kd.R_mono (Kd.R_far (p := ⟨gbz0, 3, none⟩) (Kd.R_far (p := ⟨gbz0, 2, none⟩) (Kd.R_far (p := ⟨gbz0, 1, none⟩) (Kd.R_far (p := ⟨gbz0, 0, none⟩) (Kd.R_types HOz1.out BKz2.out (by decide)) (fun _ hk => hk.2) (.int .i64 tz0)) (fun _ hk => hk.2) (.int .i64 tz1)) (fun _ hk => hk.2) (.int .i64 tz2)) (fun _ hk => hk.2) (.slice Ao16 tz4.length co16)) (fun _ hk => trivial)⟩, ⟨by refine blk_far ?_ NBz0.out _; refine blk_far ?_ NBz0.out _; refine blk_far ?_ NBz0.out _; refine blk_far ?_ NBz0.out _; (with_reducible repeat (first | refine blk_drewN ?_ _ | refine blk_drew ?_ | refine blk_alloc ?_ _)); exact BKz0.out⟩, ⟨by refine blk_far ?_ NBz1.out _; refine blk_far ?_ NBz1.out _; refine blk_far ?_ NBz1.out _; refine blk_far ?_ NBz1.out _; (with_reducible repeat (first | refine blk_drewN ?_ _ | refine blk_drew ?_ | refine blk_alloc ?_ _)); exact BKz1.out⟩, ⟨by refine blk_put (cs := #[.int .i64 tz0, .int .i64 tz1, .int .i64 tz2, .slice none 0 0]) ?_ 3 _ rfl; refine blk_put (cs := #[.int .i64 tz0, .int .i64 tz1, .int .i64 0, .slice none 0 0]) ?_ 2 _ rfl; refine blk_put (cs := #[.int .i64 tz0, .int .i64 0, .int .i64 0, .slice none 0 0]) ?_ 1 _ rfl; refine blk_put (cs := #[.int .i64 0, .int .i64 0, .int .i64 0, .slice none 0 0]) ?_ 0 _ rfl; (with_reducible repeat (first | refine blk_drewN ?_ _ | refine blk_drew ?_ | refine blk_alloc ?_ _)); exact BKz2.out⟩, ⟨by repeat (with_reducible first | exact HB.out | refine below_set ?_ GEz1.out)⟩⟩
  case round =>
   clear H'
   try clear c1
   try clear p2
   try clear c3
   try clear c4
   try clear c7
   try clear c13
   try clear c14
   try clear hcz10_0
   try clear hcz10_1
   try clear hcz10_2
   try clear hcz10_3
   try clear hcz15_0
   try clear hcz15_1
   try clear hcz15_2
   try clear hcz15_3
   try clear hcz8_0
   try clear hcz8_1
   try clear hcz8_2
   try clear hcz8_3
   try clear hfz10_0
   try clear hfz10_1
   try clear hfz10_2
   try clear hfz10_3
   try clear hfz15_0
   try clear hfz15_1
   try clear hfz15_2
   try clear hfz15_3
   try clear hfz8_0
   try clear hfz8_1
   try clear hfz8_2
   try clear hfz8_3
   obtain ⟨x4_1, xz0, u75011003, rfl, HA, HK1, HOz0, BKz0, BKz1, BKz2, HB⟩ := hrel
   cases gk with
   | zero => exact absurd HA.out (by simp [spec_InvertImage.l0])
   | succ k1 =>
    have H := HA.out
    clear HA
    simp only [spec_InvertImage.l0] at H
    by_cases c17 : x4_1 < (xz0.length : Int)
    ·rw [if_pos c17] at H
     have c17b0 : decide (x4_1 < (xz0.length : Int)) = true := decide_eq_true c17
     clear c17
     by_cases c18 : 0 ≤ x4_1
     ·rw [if_pos c18] at H
      have c18b0 : decide (0 ≤ x4_1) = true := decide_eq_true c18
      clear c18
      by_cases c19 : x4_1 < (l0_3.length : Int)
      ·rw [if_pos c19] at H
       have c19b0 : decide (x4_1 < (l0_3.length : Int)) = true := decide_eq_true c19
       clear c19
       obtain ⟨yz0, hyz0⟩ : ∃ y_ : List Int, y_ = (xz0.set (x4_1 : Int).toNat (wrap64 (255 - (rd l0_3 x4_1)))) := ⟨_, rfl⟩
       replace H : (spec_InvertImage.l0 k1 (wrap64 (x4_1 + 1)) a0_0 a0_1 a0_2 l0_3 tz0 tz1 tz2 yz0) = some (r1, r2, r3, r4) := by (rw [hyz0]; with_reducible exact H)
       have Nyz0 := mk hyz0
       clear hyz0
       have H' := mk H
       clear H
       have hcz23_3 : wr.cell? ⟨gbz0, 3, none⟩ = some u75011003 := (blk_cell BKz2.out 3).trans rfl
       obtain ⟨Ao24, co24, eo24⟩ := Kd.R_slice HOz0.out
       subst eo24
       try go_wp2
       have n0_ := mk (Kd.R_drew HOz0.out)
       have n1_ := mk (blk_drew BKz0.out)
       have n2_ := mk (blk_drew BKz1.out)
       have n3_ := mk (blk_drew BKz2.out)
       have n4_ := mk (below_drew1 HB.out)
       clear HOz0 BKz0 BKz1 BKz2 HB
       revert n0_ n1_ n2_ n3_ n4_; intro HOz0 BKz0 BKz1 BKz2 HB
       have p75011 : 0 ≤ (x4_1 : Int) := of_decide_eq_true (by (with_reducible assumption))
       have q75011 : x4_1 < (l0_3.length : Int) := of_decide_eq_true (by (with_reducible assumption))
       obtain ⟨ad75011, e75011, hx75011_0⟩ := Kd.at_int HR0_3.out x4_1 p75011 q75011
       have hw75011_0 := hx75011_0
       cases e75011
       replace hx75011_0 := (HB.out.cell (World.block_lt_of_cell? w _ hx75011_0)).trans hx75011_0
       replace p75011 := eq_true p75011
       replace q75011 := eq_true q75011
       have p20 : 0 ≤ (x4_1 : Int) := of_decide_eq_true (by (with_reducible assumption))
       have q20 : (x4_1 : Int) < ((xz0.length : Int) : Int) := of_decide_eq_true (by (with_reducible assumption))
       obtain ⟨go20, co20, eo20, gb20, gl20, cl20, HG20⟩ := Kd.R_form HOz0.out (by omega)
       (cases eo20)
       have GB20 := mk gb20
       have GG20 := mk HG20
       clear gb20 gl20 HG20
       obtain ⟨hx20_0, hf20_0⟩ := Kd.R_celln 0 HOz0.out (x4_1 : Int) p20 q20
       replace p20 := eq_true p20
       replace q20 := eq_true q20
       have HP26 := Kd.R_putn HOz0.out (x4_1 : Int) (wrap64 (255 - (rd l0_3 x4_1)))
       rw [← Nyz0.out] at HP26
       have HQ26 := mk HP26
       clear HP26
       refine start_ (n := 11) (S := fun w' => w'.cell? ⟨gbz0, 0, none⟩ = some (.int .i64 tz0) ∧ w'.cell? ⟨gbz0, 1, none⟩ = some (.int .i64 tz1) ∧ w'.cell? ⟨gbz0, 2, none⟩ = some (.int .i64 tz2) ∧ w'.cell? ⟨gbz0, 3, none⟩ = some (.slice (some ⟨go20, 0, none⟩) xz0.length co24) ∧ w'.cell? ⟨gbz1, 0, none⟩ = some (.int .i64 a0_0) ∧ w'.cell? ⟨gbz1, 1, none⟩ = some (.int .i64 a0_1) ∧ w'.cell? ⟨gbz1, 2, none⟩ = some (.int .i64 a0_2) ∧ w'.cell? ⟨gbz1, 3, none⟩ = some (.slice (some ad75011) l0_3.length c0_3) ∧ w'.cell? (ad75011.add (x4_1).toNat) = some (.int .i64 (rd l0_3 x4_1))) (ds := [10]) #[false, false, false, false, false, false, false, false, false, false, false] (by kernel_rfl) rfl rfl ⟨(blk_cell BKz2.out 0).trans rfl, (blk_cell BKz2.out 1).trans rfl, (blk_cell BKz2.out 2).trans rfl, (blk_cell BKz2.out 3).trans rfl, (blk_cell BKz0.out 0).trans rfl, (blk_cell BKz0.out 1).trans rfl, (blk_cell BKz0.out 2).trans rfl, (blk_cell BKz0.out 3).trans rfl, ((HB.out.cell (World.block_lt_of_cell? w _ hw75011_0)).trans hw75011_0)⟩ (fun hHeld => ?_); refine with_tabW spec_InvertImage.tab7 spec_InvertImage.bits7 (fun HT_ HW_ => ?_)
       generalize wr.drew = w25 at HOz0 BKz0 BKz1 BKz2 HB GG20 HQ26 hf20_0 hx20_0 hx75011_0 hHeld ⊢
       refine pure_ (i := 0) (N := some 18) (v := ?_) (a' := ?_) #[true, false, false, false, false, false, false, false, false, false, false] rfl rfl (any_of HT_.out (by kernel_rfl)) (fun _ _ _ h => h) (Or.inl ⟨by rfl, ?_⟩) ?_ ?_
       rotate_left
       ·intro w'
        go_simp
        with_reducible rfl
       rotate_left
       ·simp only [Act.put, List.setIfInBounds_toArray, List.set_cons_zero, List.set_cons_succ, i64_w, i32_w]
        rfl
       refine pure_ (i := 2) (N := some 20) (v := ?_) (a' := ?_) #[true, false, true, false, false, false, false, false, false, false, false] rfl rfl (any_of HT_.out (by kernel_rfl)) (fun _ _ _ h => h) (Or.inl ⟨by rfl, ?_⟩) ?_ ?_
       rotate_left
       ·intro w'
        go_simp
        with_reducible rfl
       rotate_left
       ·simp only [Act.put, List.setIfInBounds_toArray, List.set_cons_zero, List.set_cons_succ, i64_w, i32_w]
        rfl
       refine pure_ (i := 3) (N := some 21) (v := ?_) (a' := ?_) #[true, false, true, true, false, false, false, false, false, false, false] rfl rfl (any_of HT_.out (by kernel_rfl)) (fun _ _ _ h => h) (Or.inl ⟨by rfl, ?_⟩) ?_ ?_
       rotate_left
       ·intro w'
        go_simp
        with_reducible rfl
       rotate_left
       ·simp only [Act.put, List.setIfInBounds_toArray, List.set_cons_zero, List.set_cons_succ, i64_w, i32_w]
        rfl
       refine pure_ (i := 5) (N := some 23) (v := ?_) (a' := ?_) #[true, false, true, true, false, true, false, false, false, false, false] rfl rfl (any_of HT_.out (by kernel_rfl)) (fun _ _ _ h => h) (Or.inl ⟨by rfl, ?_⟩) ?_ ?_
       rotate_left
       ·intro w'
        go_simp
        with_reducible rfl
       rotate_left
       ·simp only [Act.put, List.setIfInBounds_toArray, List.set_cons_zero, List.set_cons_succ, i64_w, i32_w]
        rfl
       refine take_ (i := 1) (N := some 19) (v := ?_) (a' := ?_) #[true, true, true, true, false, true, false, false, false, false, false] rfl rfl (take_ofW HT_.out HW_.out (by kernel_rfl)) (fun _ _ _ h => h) (Or.inl ⟨by rfl, ?_⟩) hHeld ?_ ?_
       rotate_left
       ·rintro w' ⟨s0, s1, s2, s3, s4, s5, s6, s7, s8⟩
        go_simp
        with_reducible rfl
       rotate_left
       ·simp only [Act.put, List.setIfInBounds_toArray, List.set_cons_zero, List.set_cons_succ, i64_w, i32_w]
        rfl
       refine take_ (i := 4) (N := some 22) (v := ?_) (a' := ?_) #[true, true, true, true, true, true, false, false, false, false, false] rfl rfl (take_ofW HT_.out HW_.out (by kernel_rfl)) (fun _ _ _ h => h) (Or.inl ⟨by rfl, ?_⟩) hHeld ?_ ?_
       rotate_left
       ·rintro w' ⟨s0, s1, s2, s3, s4, s5, s6, s7, s8⟩
        go_simp
        with_reducible rfl
       rotate_left
       ·simp only [Act.put, List.setIfInBounds_toArray, List.set_cons_zero, List.set_cons_succ, i64_w, i32_w]
        rfl
       refine pure_ (i := 6) (N := some 24) (v := ?_) (a' := ?_) #[true, true, true, true, true, true, true, false, false, false, false] rfl rfl (any_of HT_.out (by kernel_rfl)) (fun _ _ _ h => h) (Or.inl ⟨by rfl, ?_⟩) ?_ ?_
       rotate_left
       ·intro w'
        go_simp
        with_reducible rfl
       rotate_left
       ·simp only [Act.put, List.setIfInBounds_toArray, List.set_cons_zero, List.set_cons_succ, i64_w, i32_w]
        rfl
       refine take_ (i := 7) (N := some 25) (v := ?_) (a' := ?_) #[true, true, true, true, true, true, true, true, false, false, false] rfl rfl (take_ofW HT_.out HW_.out (by kernel_rfl)) (fun _ _ _ h => h) (Or.inl ⟨by rfl, ?_⟩) hHeld ?_ ?_
       rotate_left
       ·rintro w' ⟨s0, s1, s2, s3, s4, s5, s6, s7, s8⟩
        go_simp
        with_reducible rfl
       rotate_left
       ·simp only [Act.put, List.setIfInBounds_toArray, List.set_cons_zero, List.set_cons_succ, i64_w, i32_w]
        rfl
       refine pure_ (i := 8) (N := some 26) (v := ?_) (a' := ?_) #[true, true, true, true, true, true, true, true, true, false, false] rfl rfl (any_of HT_.out (by kernel_rfl)) (fun _ _ _ h => h) (Or.inl ⟨by rfl, ?_⟩) ?_ ?_
       rotate_left
       ·intro w'
        go_simp
        with_reducible rfl
       rotate_left
       ·simp only [Act.put, List.setIfInBounds_toArray, List.set_cons_zero, List.set_cons_succ, i64_w, i32_w]
        rfl
       refine pure_ (i := 9) (N := some 27) (v := ?_) (a' := ?_) #[true, true, true, true, true, true, true, true, true, true, false] rfl rfl (any_of HT_.out (by kernel_rfl)) (fun _ _ _ h => h) (Or.inl ⟨by rfl, ?_⟩) ?_ ?_
       rotate_left
       ·intro w'
        go_simp
        with_reducible rfl
       rotate_left
       ·simp only [Act.put, List.setIfInBounds_toArray, List.set_cons_zero, List.set_cons_succ, i64_w, i32_w]
        rfl
       refine last_ (i := 10) (N := none) #[true, true, true, true, true, true, true, true, true, true, true] rfl rfl (one_of HT_.out (by kernel_rfl)) (by decide) (fun K hK => ?_)
       refine skip_ (w1 := ?_) (by rfl) rfl ?_ ?_
       rotate_left
       ·go_simp
        rfl
       refine hK.out _ _ ?_
       clear hK K
       refine done_ (done_of HT_.out (by kernel_rfl)) ?_
       try go_wp2
       go_roundg k1
       case measure => have := HK1.out; omega
       case rel => exact ⟨(wrap64 (x4_1 + 1)), (yz0), (.slice (some ⟨go20, 0, none⟩) xz0.length co24), (by rfl), H', ⟨by have := HK1.out; omega⟩, ⟨by (with_reducible repeat (first | apply Kd.R_alloc | apply Kd.R_drewN | apply Kd.R_drew)); exact HQ26.out⟩, ⟨by refine blk_far ?_ (by have h_ := Kd.R_ne HOz0.out BKz0.out (by decide); intro e_; exact h_ (by rw [e_]; rfl)) _; (with_reducible repeat (first | refine blk_drewN ?_ _ | refine blk_drew ?_ | refine blk_alloc ?_ _)); exact BKz0.out⟩, ⟨by refine blk_far ?_ (by have h_ := Kd.R_ne HOz0.out BKz1.out (by decide); intro e_; exact h_ (by rw [e_]; rfl)) _; (with_reducible repeat (first | refine blk_drewN ?_ _ | refine blk_drew ?_ | refine blk_alloc ?_ _)); exact BKz1.out⟩, ⟨by refine blk_far ?_ (by have h_ := Kd.R_ne HOz0.out BKz2.out (by decide); intro e_; exact h_ (by rw [e_]; rfl)) _; (with_reducible repeat (first | refine blk_drewN ?_ _ | refine blk_drew ?_ | refine blk_alloc ?_ _)); exact BKz2.out⟩, ⟨by repeat (with_reducible first | exact HB.out | refine below_set ?_ GB20.out)⟩⟩
      rw [if_neg c19] at H
      exact absurd H (by simp)
     rw [if_neg c18] at H
     exact absurd H (by simp)
    rw [if_neg c17] at H
    have c17b0 : decide (x4_1 < (xz0.length : Int)) = false := decide_eq_false c17
    clear c17
    simp only [Option.some.injEq, Prod.mk.injEq] at H
    obtain ⟨rfl, rfl, rfl, rfl⟩ := H
    have hcz29_0 : wr.cell? ⟨gbz0, 0, none⟩ = some (.int .i64 tz0) := (blk_cell BKz2.out 0).trans rfl
    have hcz29_1 : wr.cell? ⟨gbz0, 1, none⟩ = some (.int .i64 tz1) := (blk_cell BKz2.out 1).trans rfl
    have hcz29_2 : wr.cell? ⟨gbz0, 2, none⟩ = some (.int .i64 tz2) := (blk_cell BKz2.out 2).trans rfl
    have hcz29_3 : wr.cell? ⟨gbz0, 3, none⟩ = some u75011003 := (blk_cell BKz2.out 3).trans rfl
    obtain ⟨Ao30, co30, eo30⟩ := Kd.R_slice HOz0.out
    subst eo30
    have hcz32_0 : wr.cell? ⟨gbz2, 0, none⟩ = some (.int .i64 0) := (blk_cell BKz1.out 0).trans rfl
    have hcz32_1 : wr.cell? ⟨gbz2, 1, none⟩ = some (.int .i64 0) := (blk_cell BKz1.out 1).trans rfl
    have hcz32_2 : wr.cell? ⟨gbz2, 2, none⟩ = some (.int .i64 0) := (blk_cell BKz1.out 2).trans rfl
    have hcz32_3 : wr.cell? ⟨gbz2, 3, none⟩ = some (.slice none 0 0) := (blk_cell BKz1.out 3).trans rfl
    have hfz32_0 := blk_frozen BKz1.out 0
    have hfz32_1 := blk_frozen BKz1.out 1
    have hfz32_2 := blk_frozen BKz1.out 2
    have hfz32_3 := blk_frozen BKz1.out 3
    go_wp2
    refine bodyPost_ret (results_cell_row rfl _ _ gbz2 28 #[.int .i64 tz0, .int .i64 tz1, .int .i64 tz2, .slice Ao30 xz0.length co30] (0, 0) _ rfl (by refine blk_put (cs := #[.int .i64 tz0, .int .i64 tz1, .int .i64 tz2, .slice none 0 0]) ?_ 3 _ rfl; refine blk_put (cs := #[.int .i64 tz0, .int .i64 tz1, .int .i64 0, .slice none 0 0]) ?_ 2 _ rfl; refine blk_put (cs := #[.int .i64 tz0, .int .i64 0, .int .i64 0, .slice none 0 0]) ?_ 1 _ rfl; refine blk_put (cs := #[.int .i64 0, .int .i64 0, .int .i64 0, .slice none 0 0]) ?_ 0 _ rfl; (with_reducible repeat (first | refine blk_drewN ?_ _ | refine blk_drew ?_ | refine blk_alloc ?_ _)); exact BKz1.out) Try.underlying28 rfl (by kernel_rfl)) rfl ?_
    exact ⟨_, by rfl, by (with_reducible repeat (first | apply Kd.R_alloc | apply Kd.R_drewN | apply Kd.R_drew)); exact Kd.R_mono (Kd.R_far (p := ⟨gbz2, 3, none⟩) (Kd.R_far (p := ⟨gbz2, 2, none⟩) (Kd.R_far (p := ⟨gbz2, 1, none⟩) (Kd.R_far (p := ⟨gbz2, 0, none⟩) (Kd.R_types HOz0.out BKz1.out (by decide)) (fun _ hk => hk.2) (.int .i64 tz0)) (fun _ hk => hk.2) (.int .i64 tz1)) (fun _ hk => hk.2) (.int .i64 tz2)) (fun _ hk => hk.2) (.slice Ao30 xz0.length co30)) (fun _ hk => trivial), by repeat (with_reducible first | exact HB.out | refine below_set ?_ GEz0.out)⟩
 replace c3 := Bool.eq_false_iff.mpr c3
 subst c3
 have H1 : (some (0, 0, 0, ([] : List Int))) = some (r1, r2, r3, r4) := by rw [if_neg (show ¬ (false = true) by decide)] at H; exact H
 clear H
 have H := H1
 clear H1
 simp only [Option.some.injEq, Prod.mk.injEq] at H
 obtain ⟨rfl, rfl, rfl, rfl⟩ := H
 go_enter Try.func74, Try.ntmps74
 go_wp2_with (first | ((with_reducible refine gate_dst (N := 1) rfl ?_); refine box_event (by rfl) (N := 1) (by rfl) (cs := #[.int .i64 a0_0, .int .i64 a0_1, .int .i64 a0_2, .slice A0_3 l0_3.length c0_3]) (t := 28) (by go_simp; done) ?_; intro gbz1 hg w33 hbox hb; replace HB := mk (below_step HB.out hb); have BKz0 := mk (hbox); clear hb hbox hg) | ((with_reducible refine gate_dst (N := 2) rfl ?_); refine box_event (by rfl) (N := 2) (by rfl) (cs := #[.int .i64 0, .int .i64 0, .int .i64 0, .slice none 0 0]) (t := 28) (by go_simp; done) ?_; intro gbz2 hg w34 hbox hb; replace BKz0 := mk (blk_below BKz0.out hb); have BKz1 := mk (hbox); have GEz0 := mk ((by rw [hg]; exact (below_size HB.out) : w.heap.size ≤ gbz2)); replace HB := mk (below_step HB.out hb); clear hb hbox hg; have hcz36_0 : w34.cell? ⟨gbz1, 0, none⟩ = some (.int .i64 a0_0) := (blk_cell BKz0.out 0).trans rfl; have hcz36_1 : w34.cell? ⟨gbz1, 1, none⟩ = some (.int .i64 a0_1) := (blk_cell BKz0.out 1).trans rfl; have hcz36_2 : w34.cell? ⟨gbz1, 2, none⟩ = some (.int .i64 a0_2) := (blk_cell BKz0.out 2).trans rfl; have hcz36_3 : w34.cell? ⟨gbz1, 3, none⟩ = some (.slice A0_3 l0_3.length c0_3) := (blk_cell BKz0.out 3).trans rfl) | ((with_reducible refine gate_callee (f := 39) rfl ?_); refine goesL_ (some 6) rfl rfl Try.func39 (by kernel_rfl) rfl #[.agg #[.int .i64 a0_0, .int .i64 a0_1, .int .i64 a0_2, .slice A0_3 l0_3.length c0_3]] rfl (by (try simp only [List.map_toArray, List.map_cons, List.map_nil]); rfl) ?_; (with_reducible refine (spec_validImage.calls k a0_0 a0_1 a0_2 _ _ l0_3 false _ ?side1 ?side2 A2.out).mono ?_); (case side1 => repeat (exact (Kd.C_below HR0_3.out HB.out))); (case side2 => exact HC0_3.out); rintro e w37 ⟨rfl, hb⟩; refine ⟨_, rfl, ?_⟩; have n1_ := mk (blk_below BKz1.out hb); have n2_ := mk (below_step HB.out hb); clear BKz0; clear BKz1; clear HB; have BKz1 := n1_; have HB := n2_; (try clear hb); have hcz38_0 : w37.cell? ⟨gbz2, 0, none⟩ = some (.int .i64 0) := (blk_cell BKz1.out 0).trans rfl; have hcz38_1 : w37.cell? ⟨gbz2, 1, none⟩ = some (.int .i64 0) := (blk_cell BKz1.out 1).trans rfl; have hcz38_2 : w37.cell? ⟨gbz2, 2, none⟩ = some (.int .i64 0) := (blk_cell BKz1.out 2).trans rfl; have hcz38_3 : w37.cell? ⟨gbz2, 3, none⟩ = some (.slice none 0 0) := (blk_cell BKz1.out 3).trans rfl; have hfz38_0 := blk_frozen BKz1.out 0; have hfz38_1 := blk_frozen BKz1.out 1; have hfz38_2 := blk_frozen BKz1.out 2; have hfz38_3 := blk_frozen BKz1.out 3))
 refine bodyPost_ret (results_cell_row rfl _ _ gbz2 28 #[.int .i64 0, .int .i64 0, .int .i64 0, .slice none 0 0] (0, 0) _ rfl (by refine blk_put (cs := #[.int .i64 0, .int .i64 0, .int .i64 0, .slice none 0 0]) ?_ 3 _ rfl; refine blk_put (cs := #[.int .i64 0, .int .i64 0, .int .i64 0, .slice none 0 0]) ?_ 2 _ rfl; refine blk_put (cs := #[.int .i64 0, .int .i64 0, .int .i64 0, .slice none 0 0]) ?_ 1 _ rfl; refine blk_put (cs := #[.int .i64 0, .int .i64 0, .int .i64 0, .slice none 0 0]) ?_ 0 _ rfl; (with_reducible repeat (first | refine blk_drewN ?_ _ | refine blk_drew ?_ | refine blk_alloc ?_ _)); exact BKz1.out) Try.underlying28 rfl (by kernel_rfl)) rfl ?_
 exact ⟨_, by rfl, by exact Kd.R_nil _ _ _ _ _, by repeat (with_reducible first | exact HB.out | refine below_set ?_ GEz0.out)⟩


def spec_validBox.f (a0_0 : Int) (a0_1 : Int) (a0_2 : Int) (l0_3 : List Int) (a1_0 : Int) (a1_1 : Int) (a1_2 : Int) (a1_3 : Int) : Option Bool := (spec_inRange.f a1_0 0 (wrap64 (a0_0 - 1))).bind fun tz3 => (if tz3 = true then ((spec_inRange.f a1_1 0 (wrap64 (a0_1 - 1))).bind fun tz2 => (if tz2 = true then ((spec_inRange.f a1_2 1 (wrap64 (a0_0 - a1_0))).bind fun tz1 => (if tz1 = true then ((spec_inRange.f a1_3 1 (wrap64 (a0_1 - a1_1))).bind fun tz0 => (some tz0)) else (some false))) else (some false))) else (some false))
set_option maxHeartbeats 8000000 in
set_option maxRecDepth 100000 in
theorem spec_validBox.calls (a0_0 : Int) (a0_1 : Int) (a0_2 : Int) (A0_3 : Option Addr) (c0_3 : Nat) (l0_3 : List Int) (a1_0 : Int) (a1_1 : Int) (a1_2 : Int) (a1_3 : Int) (r : Bool) (w : World) (hr0_3 : Kd.C (Kd.int .i64) w A0_3 l0_3.length l0_3) (hc0_3 : l0_3.length ≤ c0_3) (h : spec_validBox.f a0_0 a0_1 a0_2 l0_3 a1_0 a1_1 a1_2 a1_3 = some r) :
  Calls Try.prog 76 #[.agg #[.int .i64 a0_0, .int .i64 a0_1, .int .i64 a0_2, .slice A0_3 l0_3.length c0_3], .agg #[.int .i64 a1_0, .int .i64 a1_1, .int .i64 a1_2, .int .i64 a1_3]] w fun e w' => e = .returned (.bool r) ∧ Below w.heap.size w w' := by
 clear hr0_3 hc0_3
 have HB := mk (Below.refl w.heap.size w)
 have H : ((spec_inRange.f a1_0 0 (wrap64 (a0_0 - 1))).bind fun tz3 => (if tz3 = true then ((spec_inRange.f a1_1 0 (wrap64 (a0_1 - 1))).bind fun tz2 => (if tz2 = true then ((spec_inRange.f a1_2 1 (wrap64 (a0_0 - a1_0))).bind fun tz1 => (if tz1 = true then ((spec_inRange.f a1_3 1 (wrap64 (a0_1 - a1_1))).bind fun tz0 => (some tz0)) else (some false))) else (some false))) else (some false))) = some r := h
 clear h
 replace H := Option.bind_eq_some_iff.mp H
 obtain ⟨tz3, A30, H⟩ := H
 replace H : (if tz3 = true then ((spec_inRange.f a1_1 0 (wrap64 (a0_1 - 1))).bind fun tz2 => (if tz2 = true then ((spec_inRange.f a1_2 1 (wrap64 (a0_0 - a1_0))).bind fun tz1 => (if tz1 = true then ((spec_inRange.f a1_3 1 (wrap64 (a0_1 - a1_1))).bind fun tz0 => (some tz0)) else (some false))) else (some false))) else (some false)) = some r := H
 have A3 := mk A30
 clear A30
 by_cases c4 : tz3 = true
 ·subst c4
  have H1 : ((spec_inRange.f a1_1 0 (wrap64 (a0_1 - 1))).bind fun tz2 => (if tz2 = true then ((spec_inRange.f a1_2 1 (wrap64 (a0_0 - a1_0))).bind fun tz1 => (if tz1 = true then ((spec_inRange.f a1_3 1 (wrap64 (a0_1 - a1_1))).bind fun tz0 => (some tz0)) else (some false))) else (some false))) = some r := by rw [if_pos rfl] at H; exact H
  clear H
  have H := H1
  clear H1
  replace H := Option.bind_eq_some_iff.mp H
  obtain ⟨tz2, A50, H⟩ := H
  replace H : (if tz2 = true then ((spec_inRange.f a1_2 1 (wrap64 (a0_0 - a1_0))).bind fun tz1 => (if tz1 = true then ((spec_inRange.f a1_3 1 (wrap64 (a0_1 - a1_1))).bind fun tz0 => (some tz0)) else (some false))) else (some false)) = some r := H
  have A5 := mk A50
  clear A50
  by_cases c6 : tz2 = true
  ·subst c6
   have H1 : ((spec_inRange.f a1_2 1 (wrap64 (a0_0 - a1_0))).bind fun tz1 => (if tz1 = true then ((spec_inRange.f a1_3 1 (wrap64 (a0_1 - a1_1))).bind fun tz0 => (some tz0)) else (some false))) = some r := by rw [if_pos rfl] at H; exact H
   clear H
   have H := H1
   clear H1
   replace H := Option.bind_eq_some_iff.mp H
   obtain ⟨tz1, A70, H⟩ := H
   replace H : (if tz1 = true then ((spec_inRange.f a1_3 1 (wrap64 (a0_1 - a1_1))).bind fun tz0 => (some tz0)) else (some false)) = some r := H
   have A7 := mk A70
   clear A70
   by_cases c8 : tz1 = true
   ·subst c8
    have H1 : ((spec_inRange.f a1_3 1 (wrap64 (a0_1 - a1_1))).bind fun tz0 => (some tz0)) = some r := by rw [if_pos rfl] at H; exact H
    clear H
    have H := H1
    clear H1
    replace H := Option.bind_eq_some_iff.mp H
    obtain ⟨tz0, A90, H⟩ := H
    replace H : (some tz0) = some r := H
    have A9 := mk A90
    clear A90
    obtain rfl := Option.some.inj H
    go_enter Try.func76, Try.ntmps76
    go_wp2_with (first | ((with_reducible refine gate_dst (N := 2) rfl ?_); refine box_event (by rfl) (N := 2) (by rfl) (cs := #[.int .i64 a0_0, .int .i64 a0_1, .int .i64 a0_2, .slice A0_3 l0_3.length c0_3]) (t := 28) (by go_simp; done) ?_; intro gbz1 hg w10 hbox hb; replace HB := mk (below_step HB.out hb); have BKz0 := mk (hbox); clear hb hbox hg) | ((with_reducible refine gate_dst (N := 3) rfl ?_); refine box_event (by rfl) (N := 3) (by rfl) (cs := #[.int .i64 a1_0, .int .i64 a1_1, .int .i64 a1_2, .int .i64 a1_3]) (t := 41) (by go_simp; done) ?_; intro gbz0 hg w11 hbox hb; replace BKz0 := mk (blk_below BKz0.out hb); replace HB := mk (below_step HB.out hb); have BKz1 := mk (hbox); clear hb hbox hg; have hcz13_0 : w11.cell? ⟨gbz0, 0, none⟩ = some (.int .i64 a1_0) := (blk_cell BKz1.out 0).trans rfl; have hcz13_1 : w11.cell? ⟨gbz0, 1, none⟩ = some (.int .i64 a1_1) := (blk_cell BKz1.out 1).trans rfl; have hcz13_2 : w11.cell? ⟨gbz0, 2, none⟩ = some (.int .i64 a1_2) := (blk_cell BKz1.out 2).trans rfl; have hcz13_3 : w11.cell? ⟨gbz0, 3, none⟩ = some (.int .i64 a1_3) := (blk_cell BKz1.out 3).trans rfl; have hcz14_0 : w11.cell? ⟨gbz1, 0, none⟩ = some (.int .i64 a0_0) := (blk_cell BKz0.out 0).trans rfl; have hcz14_1 : w11.cell? ⟨gbz1, 1, none⟩ = some (.int .i64 a0_1) := (blk_cell BKz0.out 1).trans rfl) | ((with_reducible refine gate_callee (f := 93) rfl ?_); refine goesL_ (some 10) rfl rfl Try.func93 (by kernel_rfl) rfl #[.int .i64 a1_0, .int .i64 0, .int .i64 (wrap64 (a0_0 - 1))] rfl (by (try simp only [List.map_toArray, List.map_cons, List.map_nil]); rfl) ?_; (with_reducible refine (spec_inRange.calls a1_0 0 (wrap64 (a0_0 - 1)) true _ A3.out).mono ?_); rintro e w' ⟨rfl, ⟨nd, rfl⟩⟩; refine ⟨_, rfl, ?_⟩) | (go_at_call 93; (with_reducible refine (spec_inRange.calls a1_1 0 (wrap64 (a0_1 - 1)) true _ A5.out).mono ?_); rintro e w' ⟨rfl, ⟨nd, rfl⟩⟩) | (go_at_call 93; (with_reducible refine (spec_inRange.calls a1_2 1 (wrap64 (a0_0 - a1_0)) true _ A7.out).mono ?_); rintro e w' ⟨rfl, ⟨nd, rfl⟩⟩) | (go_at_call 93; (with_reducible refine (spec_inRange.calls a1_3 1 (wrap64 (a0_1 - a1_1)) tz0 _ A9.out).mono ?_); rintro e w' ⟨rfl, ⟨nd, rfl⟩⟩))
    go_ret
    exact ⟨by rfl, by repeat (with_reducible first | exact HB.out | apply pw_below_drewN)⟩
   replace c8 := Bool.eq_false_iff.mpr c8
   subst c8
   have H1 : (some false) = some r := by rw [if_neg (show ¬ (false = true) by decide)] at H; exact H
   clear H
   have H := H1
   clear H1
   obtain rfl := Option.some.inj H
   go_enter Try.func76, Try.ntmps76
   go_wp2_with (first | ((with_reducible refine gate_dst (N := 2) rfl ?_); refine box_event (by rfl) (N := 2) (by rfl) (cs := #[.int .i64 a0_0, .int .i64 a0_1, .int .i64 a0_2, .slice A0_3 l0_3.length c0_3]) (t := 28) (by go_simp; done) ?_; intro gbz1 hg w15 hbox hb; replace HB := mk (below_step HB.out hb); have BKz0 := mk (hbox); clear hb hbox hg) | ((with_reducible refine gate_dst (N := 3) rfl ?_); refine box_event (by rfl) (N := 3) (by rfl) (cs := #[.int .i64 a1_0, .int .i64 a1_1, .int .i64 a1_2, .int .i64 a1_3]) (t := 41) (by go_simp; done) ?_; intro gbz0 hg w16 hbox hb; replace BKz0 := mk (blk_below BKz0.out hb); replace HB := mk (below_step HB.out hb); have BKz1 := mk (hbox); clear hb hbox hg; have hcz18_0 : w16.cell? ⟨gbz0, 0, none⟩ = some (.int .i64 a1_0) := (blk_cell BKz1.out 0).trans rfl; have hcz18_1 : w16.cell? ⟨gbz0, 1, none⟩ = some (.int .i64 a1_1) := (blk_cell BKz1.out 1).trans rfl; have hcz18_2 : w16.cell? ⟨gbz0, 2, none⟩ = some (.int .i64 a1_2) := (blk_cell BKz1.out 2).trans rfl; have hcz19_0 : w16.cell? ⟨gbz1, 0, none⟩ = some (.int .i64 a0_0) := (blk_cell BKz0.out 0).trans rfl; have hcz19_1 : w16.cell? ⟨gbz1, 1, none⟩ = some (.int .i64 a0_1) := (blk_cell BKz0.out 1).trans rfl) | ((with_reducible refine gate_callee (f := 93) rfl ?_); refine goesL_ (some 10) rfl rfl Try.func93 (by kernel_rfl) rfl #[.int .i64 a1_0, .int .i64 0, .int .i64 (wrap64 (a0_0 - 1))] rfl (by (try simp only [List.map_toArray, List.map_cons, List.map_nil]); rfl) ?_; (with_reducible refine (spec_inRange.calls a1_0 0 (wrap64 (a0_0 - 1)) true _ A3.out).mono ?_); rintro e w' ⟨rfl, ⟨nd, rfl⟩⟩; refine ⟨_, rfl, ?_⟩) | (go_at_call 93; (with_reducible refine (spec_inRange.calls a1_1 0 (wrap64 (a0_1 - 1)) true _ A5.out).mono ?_); rintro e w' ⟨rfl, ⟨nd, rfl⟩⟩) | (go_at_call 93; (with_reducible refine (spec_inRange.calls a1_2 1 (wrap64 (a0_0 - a1_0)) false _ A7.out).mono ?_); rintro e w' ⟨rfl, ⟨nd, rfl⟩⟩))
   go_ret
   exact ⟨by rfl, by repeat (with_reducible first | exact HB.out | apply pw_below_drewN)⟩
  replace c6 := Bool.eq_false_iff.mpr c6
  subst c6
  have H1 : (some false) = some r := by rw [if_neg (show ¬ (false = true) by decide)] at H; exact H
  clear H
  have H := H1
  clear H1
  obtain rfl := Option.some.inj H
  go_enter Try.func76, Try.ntmps76
  go_wp2_with (first | ((with_reducible refine gate_dst (N := 2) rfl ?_); refine box_event (by rfl) (N := 2) (by rfl) (cs := #[.int .i64 a0_0, .int .i64 a0_1, .int .i64 a0_2, .slice A0_3 l0_3.length c0_3]) (t := 28) (by go_simp; done) ?_; intro gbz1 hg w20 hbox hb; replace HB := mk (below_step HB.out hb); have BKz0 := mk (hbox); clear hb hbox hg) | ((with_reducible refine gate_dst (N := 3) rfl ?_); refine box_event (by rfl) (N := 3) (by rfl) (cs := #[.int .i64 a1_0, .int .i64 a1_1, .int .i64 a1_2, .int .i64 a1_3]) (t := 41) (by go_simp; done) ?_; intro gbz0 hg w21 hbox hb; replace BKz0 := mk (blk_below BKz0.out hb); replace HB := mk (below_step HB.out hb); have BKz1 := mk (hbox); clear hb hbox hg; have hcz23_0 : w21.cell? ⟨gbz0, 0, none⟩ = some (.int .i64 a1_0) := (blk_cell BKz1.out 0).trans rfl; have hcz23_1 : w21.cell? ⟨gbz0, 1, none⟩ = some (.int .i64 a1_1) := (blk_cell BKz1.out 1).trans rfl; have hcz24_0 : w21.cell? ⟨gbz1, 0, none⟩ = some (.int .i64 a0_0) := (blk_cell BKz0.out 0).trans rfl; have hcz24_1 : w21.cell? ⟨gbz1, 1, none⟩ = some (.int .i64 a0_1) := (blk_cell BKz0.out 1).trans rfl) | ((with_reducible refine gate_callee (f := 93) rfl ?_); refine goesL_ (some 10) rfl rfl Try.func93 (by kernel_rfl) rfl #[.int .i64 a1_0, .int .i64 0, .int .i64 (wrap64 (a0_0 - 1))] rfl (by (try simp only [List.map_toArray, List.map_cons, List.map_nil]); rfl) ?_; (with_reducible refine (spec_inRange.calls a1_0 0 (wrap64 (a0_0 - 1)) true _ A3.out).mono ?_); rintro e w' ⟨rfl, ⟨nd, rfl⟩⟩; refine ⟨_, rfl, ?_⟩) | (go_at_call 93; (with_reducible refine (spec_inRange.calls a1_1 0 (wrap64 (a0_1 - 1)) false _ A5.out).mono ?_); rintro e w' ⟨rfl, ⟨nd, rfl⟩⟩))
  go_ret
  exact ⟨by rfl, by repeat (with_reducible first | exact HB.out | apply pw_below_drewN)⟩
 replace c4 := Bool.eq_false_iff.mpr c4
 subst c4
 have H1 : (some false) = some r := by rw [if_neg (show ¬ (false = true) by decide)] at H; exact H
 clear H
 have H := H1
 clear H1
 obtain rfl := Option.some.inj H
 go_enter Try.func76, Try.ntmps76
 go_wp2_with (first | ((with_reducible refine gate_dst (N := 2) rfl ?_); refine box_event (by rfl) (N := 2) (by rfl) (cs := #[.int .i64 a0_0, .int .i64 a0_1, .int .i64 a0_2, .slice A0_3 l0_3.length c0_3]) (t := 28) (by go_simp; done) ?_; intro gbz1 hg w25 hbox hb; replace HB := mk (below_step HB.out hb); have BKz0 := mk (hbox); clear hb hbox hg) | ((with_reducible refine gate_dst (N := 3) rfl ?_); refine box_event (by rfl) (N := 3) (by rfl) (cs := #[.int .i64 a1_0, .int .i64 a1_1, .int .i64 a1_2, .int .i64 a1_3]) (t := 41) (by go_simp; done) ?_; intro gbz0 hg w26 hbox hb; replace BKz0 := mk (blk_below BKz0.out hb); replace HB := mk (below_step HB.out hb); have BKz1 := mk (hbox); clear hb hbox hg; have hcz28_0 : w26.cell? ⟨gbz0, 0, none⟩ = some (.int .i64 a1_0) := (blk_cell BKz1.out 0).trans rfl; have hcz29_0 : w26.cell? ⟨gbz1, 0, none⟩ = some (.int .i64 a0_0) := (blk_cell BKz0.out 0).trans rfl) | ((with_reducible refine gate_callee (f := 93) rfl ?_); refine goesL_ (some 10) rfl rfl Try.func93 (by kernel_rfl) rfl #[.int .i64 a1_0, .int .i64 0, .int .i64 (wrap64 (a0_0 - 1))] rfl (by (try simp only [List.map_toArray, List.map_cons, List.map_nil]); rfl) ?_; (with_reducible refine (spec_inRange.calls a1_0 0 (wrap64 (a0_0 - 1)) false _ A3.out).mono ?_); rintro e w' ⟨rfl, ⟨nd, rfl⟩⟩; refine ⟨_, rfl, ?_⟩))
 go_ret
 exact ⟨by rfl, by repeat (with_reducible first | exact HB.out | apply pw_below_drewN)⟩


mutual
def spec_crop.l0 : Nat → Int → Int → Int → Int → Int → Int → Int → Int → List Int → Int → Int → Int → List Int → Option (Int × Int × Int × List Int)
 | 0, _, _, _, _, _, _, _, _, _, _, _, _, _ => none
 | k + 1, x1, x2, x3, x4, x12, xz5, xz6, xz7, xz8, xz2, xz3, xz4, xz9 => if x12 < x4 then (spec_crop.l1 k x1 x2 x3 x4 x12 0 xz5 xz6 xz7 xz8 xz2 xz3 xz4 xz9) else (some (xz2, xz3, xz4, xz9))
def spec_crop.l1 : Nat → Int → Int → Int → Int → Int → Int → Int → Int → Int → List Int → Int → Int → Int → List Int → Option (Int × Int × Int × List Int)
 | 0, _, _, _, _, _, _, _, _, _, _, _, _, _, _ => none
 | k + 1, x1, x2, x3, x4, x12, x13, xz5, xz6, xz7, xz8, xz2, xz3, xz4, xz9 => if x13 < x3 then ((spec_pixelAt.f xz5 xz6 xz7 xz8 (wrap64 (x1 + x13)) (wrap64 (x2 + x12))).bind fun tz4 => ((spec_setPixel.f k xz2 xz3 xz4 xz9 x13 x12 tz4).bind fun tz3 => (spec_crop.l1 k x1 x2 x3 x4 x12 (wrap64 (x13 + 1)) xz5 xz6 xz7 xz8 xz2 xz3 xz4 tz3))) else (spec_crop.l0 k x1 x2 x3 x4 (wrap64 (x12 + 1)) xz5 xz6 xz7 xz8 xz2 xz3 xz4 xz9)
end
def spec_crop.f (k : Nat) (a0_0 : Int) (a0_1 : Int) (a0_2 : Int) (l0_3 : List Int) (a1 : Int) (a2 : Int) (a3 : Int) (a4 : Int) : Option (Int × Int × Int × List Int) := (spec_newImage.f a3 a4 a0_2).bind fun btz0 => (spec_crop.l0 k a1 a2 a3 a4 0 a0_0 a0_1 a0_2 l0_3 btz0.1 btz0.2.1 btz0.2.2.1 btz0.2.2.2)
theorem spec_crop.mono_l : ∀ k, (∀ y0 y1 y2 y3 y4 y5 y6 y7 y8 y9 y10 y11 y12, LeO (spec_crop.l0 k y0 y1 y2 y3 y4 y5 y6 y7 y8 y9 y10 y11 y12) (spec_crop.l0 (k + 1) y0 y1 y2 y3 y4 y5 y6 y7 y8 y9 y10 y11 y12)) ∧ (∀ y0 y1 y2 y3 y4 y5 y6 y7 y8 y9 y10 y11 y12 y13, LeO (spec_crop.l1 k y0 y1 y2 y3 y4 y5 y6 y7 y8 y9 y10 y11 y12 y13) (spec_crop.l1 (k + 1) y0 y1 y2 y3 y4 y5 y6 y7 y8 y9 y10 y11 y12 y13))
 | 0 => ⟨fun _ _ _ _ _ _ _ _ _ _ _ _ _ r h => by simp [spec_crop.l0] at h, fun _ _ _ _ _ _ _ _ _ _ _ _ _ _ r h => by simp [spec_crop.l1] at h⟩
 | k + 1 => by
  obtain ⟨ih0, ih1⟩ := spec_crop.mono_l k
  refine ⟨?_, ?_⟩
  ·intro y0 y1 y2 y3 y4 y5 y6 y7 y8 y9 y10 y11 y12
   unfold spec_crop.l0
   repeat' first | (with_reducible exact ih1 _ _ _ _ _ _ _ _ _ _ _ _ _ _) | (with_reducible exact LeO.refl _) | (with_reducible refine LeO.ite ?_ ?_)
  intro y0 y1 y2 y3 y4 y5 y6 y7 y8 y9 y10 y11 y12 y13
  unfold spec_crop.l1
  repeat' first | (with_reducible exact ih0 _ _ _ _ _ _ _ _ _ _ _ _ _) | (with_reducible exact ih1 _ _ _ _ _ _ _ _ _ _ _ _ _ _) | (with_reducible exact spec_setPixel.mono _ _ _ _ _ _ _ _) | (with_reducible exact LeO.refl _) | (with_reducible refine LeO.ite ?_ ?_) | (with_reducible refine LeO.bind ?_ (fun _ => ?_))
theorem spec_crop.mono : ∀ a0 a1 a2 a3 a4 a5 a6 a7 k, LeO (spec_crop.f k a0 a1 a2 a3 a4 a5 a6 a7) (spec_crop.f (k + 1) a0 a1 a2 a3 a4 a5 a6 a7) := by
 intro a0 a1 a2 a3 a4 a5 a6 a7 k
 obtain ⟨ih0, ih1⟩ := spec_crop.mono_l k
 unfold spec_crop.f
 repeat' first | (with_reducible exact ih0 _ _ _ _ _ _ _ _ _ _ _ _ _) | (with_reducible exact LeO.refl _) | (with_reducible refine LeO.bind ?_ (fun _ => ?_))
def spec_crop.T8 : Bool × List (List Nat × List Nat) := (true, [([], []), ([], []), ([], []), ([], []), ([], []), ([], []), ([4, 5], [4, 5]), ([], []), ([], []), ([7, 8], [7, 8]), ([3, 6, 9], [3, 6, 9]), ([0, 1, 2, 10, 10], [0, 1, 2, 10])])
def spec_crop.B8 : List Nat := [0, 0, 0, 0, 0, 0, 48, 0, 0, 384, 1016, 2047]
theorem spec_crop.tab8 : rtab .any (opsOf Try.f97 8) = spec_crop.T8 := by kernel_rfl
theorem spec_crop.bits8 : waitsOk spec_crop.T8.2 spec_crop.B8 = true := by kernel_rfl
set_option maxHeartbeats 8000000 in
set_option maxRecDepth 100000 in
theorem spec_crop.calls (k : Nat) (a0_0 : Int) (a0_1 : Int) (a0_2 : Int) (A0_3 : Option Addr) (c0_3 : Nat) (l0_3 : List Int) (a1 : Int) (a2 : Int) (a3 : Int) (a4 : Int) (r1 : Int) (r2 : Int) (r3 : Int) (r4 : List Int) (w : World) (hr0_3 : Kd.C (Kd.int .i64) w A0_3 l0_3.length l0_3) (hc0_3 : l0_3.length ≤ c0_3) (h : spec_crop.f k a0_0 a0_1 a0_2 l0_3 a1 a2 a3 a4 = some (r1, r2, r3, r4)) :
  Calls Try.prog 97 #[.agg #[.int .i64 a0_0, .int .i64 a0_1, .int .i64 a0_2, .slice A0_3 l0_3.length c0_3], .int .i64 a1, .int .i64 a2, .int .i64 a3, .int .i64 a4] w fun e w' => ∃ v3_ : Value, e = .returned (.agg #[.int .i64 r1, .int .i64 r2, .int .i64 r3, v3_]) ∧ Kd.R (Kd.int .i64) 3 w' w.heap.size (fun _ => True) v3_ r4 ∧ Below w.heap.size w w' := by
 have HR0_3 := mk hr0_3
 have HC0_3 := mk hc0_3
 clear hr0_3 hc0_3
 have HB := mk (Below.refl w.heap.size w)
 have H : ((spec_newImage.f a3 a4 a0_2).bind fun btz0 => (spec_crop.l0 k a1 a2 a3 a4 0 a0_0 a0_1 a0_2 l0_3 btz0.1 btz0.2.1 btz0.2.2.1 btz0.2.2.2)) = some (r1, r2, r3, r4) := h
 clear h
 replace H := Option.bind_eq_some_iff.mp H
 obtain ⟨⟨tz0, tz1, tz2, tz5⟩, A60, H⟩ := H
 replace H : (spec_crop.l0 k a1 a2 a3 a4 0 a0_0 a0_1 a0_2 l0_3 tz0 tz1 tz2 tz5) = some (r1, r2, r3, r4) := H
 have A6 := mk A60
 clear A60
 have H' := mk H
 clear H
 go_enter Try.func97, Try.ntmps97
 go_wp2_with (first | ((with_reducible refine gate_dst (N := 5) rfl ?_); refine box_event (by rfl) (N := 5) (by rfl) (cs := #[.int .i64 a0_0, .int .i64 a0_1, .int .i64 a0_2, .slice A0_3 l0_3.length c0_3]) (t := 28) (by go_simp; done) ?_; intro gbz2 hg w7 hbox hb; replace HB := mk (below_step HB.out hb); have BKz0 := mk (hbox); clear hb hbox hg) | ((with_reducible refine gate_dst (N := 10) rfl ?_); refine box_event (by rfl) (N := 10) (by rfl) (cs := #[.int .i64 0, .int .i64 0, .int .i64 0, .slice none 0 0]) (t := 28) (by go_simp; done) ?_; intro gbz1 hg w8 hbox hb; replace BKz0 := mk (blk_below BKz0.out hb); have BKz2 := mk (hbox); have GEz0 := mk ((by rw [hg]; exact (below_size HB.out) : w.heap.size ≤ gbz1)); replace HB := mk (below_step HB.out hb); clear hb hbox hg; have hcz10_0 : w8.cell? ⟨gbz2, 0, none⟩ = some (.int .i64 a0_0) := (blk_cell BKz0.out 0).trans rfl; have hcz10_1 : w8.cell? ⟨gbz2, 1, none⟩ = some (.int .i64 a0_1) := (blk_cell BKz0.out 1).trans rfl; have hcz10_2 : w8.cell? ⟨gbz2, 2, none⟩ = some (.int .i64 a0_2) := (blk_cell BKz0.out 2).trans rfl; have hcz10_3 : w8.cell? ⟨gbz2, 3, none⟩ = some (.slice A0_3 l0_3.length c0_3) := (blk_cell BKz0.out 3).trans rfl; have hfz10_0 := blk_frozen BKz0.out 0; have hfz10_1 := blk_frozen BKz0.out 1; have hfz10_2 := blk_frozen BKz0.out 2; have hfz10_3 := blk_frozen BKz0.out 3) | ((with_reducible refine gate_callee (f := 96) rfl ?_); refine goesL_ (some 18) rfl rfl Try.func96 (by kernel_rfl) rfl #[.int .i64 a3, .int .i64 a4, .int .i64 a0_2] rfl (by (try simp only [List.map_toArray, List.map_cons, List.map_nil]); rfl) ?_; (with_reducible refine (spec_newImage.calls a3 a4 a0_2 tz0 tz1 tz2 tz5 _ A6.out).mono ?_); rintro e w11 ⟨vz0, rfl, ho0, hb⟩; refine ⟨_, rfl, ?_⟩; have HOz2 := mk (Kd.R_lower ho0 (below_size HB.out)); replace BKz0 := mk (blk_below BKz0.out hb); replace BKz2 := mk (blk_below BKz2.out hb); replace HB := mk (below_step HB.out hb); (try clear hb); (try clear ho0)) | ((with_reducible refine gate_dst (N := 11) rfl ?_); refine box_event (by rfl) (N := 11) (by rfl) (cs := #[.int .i64 0, .int .i64 0, .int .i64 0, .slice none 0 0]) (t := 28) (by go_simp; done) ?_; intro gbz0 hg w12 hbox hb; replace HOz2 := mk (Kd.R_below HOz2.out hb); have BKz1 := mk (hbox); have GEz1 := mk ((by rw [hg]; exact (below_size HB.out) : w.heap.size ≤ gbz0)); replace HB := mk (below_step HB.out hb); have NBz0 := mk ((by rw [hg]; exact Nat.ne_of_lt (blk_lt BKz0.out) : gbz2 ≠ gbz0)); replace BKz0 := mk (blk_below BKz0.out hb); have NBz1 := mk ((by rw [hg]; exact Nat.ne_of_lt (blk_lt BKz2.out) : gbz1 ≠ gbz0)); replace BKz2 := mk (blk_below BKz2.out hb); clear hb hbox hg; have hcz15_0 : w12.cell? ⟨gbz0, 0, none⟩ = some (.int .i64 0) := (blk_cell BKz1.out 0).trans rfl; have hcz15_1 : w12.cell? ⟨gbz0, 1, none⟩ = some (.int .i64 0) := (blk_cell BKz1.out 1).trans rfl; have hcz15_2 : w12.cell? ⟨gbz0, 2, none⟩ = some (.int .i64 0) := (blk_cell BKz1.out 2).trans rfl; have hcz15_3 : w12.cell? ⟨gbz0, 3, none⟩ = some (.slice none 0 0) := (blk_cell BKz1.out 3).trans rfl; have hfz15_0 := blk_frozen BKz1.out 0; have hfz15_1 := blk_frozen BKz1.out 1; have hfz15_2 := blk_frozen BKz1.out 2; have hfz15_3 := blk_frozen BKz1.out 3; obtain ⟨Ao16, co16, eo16⟩ := Kd.R_slice HOz2.out; subst eo16))
 go_loopg [12] k (fun kq v12 w' => ∃ (x12_1 : Int) (xz1 : List Int) (u98010003 : Value), v12 = .int .i64 x12_1 ∧ Aside0 (spec_crop.l0 kq a1 a2 a3 a4 x12_1 a0_0 a0_1 a0_2 l0_3 tz0 tz1 tz2 xz1 = some (r1, r2, r3, r4)) ∧ Aside0 (kq ≤ k) ∧ Aside0 (Kd.R (Kd.int .i64) 3 w' w.heap.size (fun _ => True) u98010003 xz1) ∧ Aside0 (w'.heap[gbz2]? = some (.cells #[.int .i64 a0_0, .int .i64 a0_1, .int .i64 a0_2, (.slice A0_3 l0_3.length c0_3)] 28 (0, 0))) ∧ Aside0 (w'.heap[gbz1]? = some (.cells #[.int .i64 0, .int .i64 0, .int .i64 0, (.slice none 0 0)] 28 (0, 0))) ∧ Aside0 (w'.heap[gbz0]? = some (.cells #[.int .i64 tz0, .int .i64 tz1, .int .i64 tz2, u98010003] 28 (0, 0))) ∧ Aside0 (Below w.heap.size w w'))
 case atStart => exact ⟨(0), (tz5), (.slice Ao16 tz5.length co16), (by rfl), H', ⟨Nat.le_refl _⟩, ⟨by (with_reducible repeat (first | apply Kd.R_alloc | apply Kd.R_drewN | apply Kd.R_drew)); exact Kd.R_mono (Kd.R_far (p := ⟨gbz0, 3, none⟩) (Kd.R_far (p := ⟨gbz0, 2, none⟩) (Kd.R_far (p := ⟨gbz0, 1, none⟩) (Kd.R_far (p := ⟨gbz0, 0, none⟩) (Kd.R_types HOz2.out BKz1.out (by decide)) (fun _ hk => hk.2) (.int .i64 tz0)) (fun _ hk => hk.2) (.int .i64 tz1)) (fun _ hk => hk.2) (.int .i64 tz2)) (fun _ hk => hk.2) (.slice Ao16 tz5.length co16)) (fun _ hk => trivial)⟩, ⟨by refine blk_far ?_ NBz0.out _; refine blk_far ?_ NBz0.out _; refine blk_far ?_ NBz0.out _; refine blk_far ?_ NBz0.out _; (with_reducible repeat (first | refine blk_drewN ?_ _ | refine blk_drew ?_ | refine blk_alloc ?_ _)); exact BKz0.out⟩, ⟨by refine blk_far ?_ NBz1.out _; refine blk_far ?_ NBz1.out _; refine blk_far ?_ NBz1.out _; refine blk_far ?_ NBz1.out _; (with_reducible repeat (first | refine blk_drewN ?_ _ | refine blk_drew ?_ | refine blk_alloc ?_ _)); exact BKz2.out⟩, ⟨by refine blk_put (cs := #[.int .i64 tz0, .int .i64 tz1, .int .i64 tz2, .slice none 0 0]) ?_ 3 _ rfl; refine blk_put (cs := #[.int .i64 tz0, .int .i64 tz1, .int .i64 0, .slice none 0 0]) ?_ 2 _ rfl; refine blk_put (cs := #[.int .i64 tz0, .int .i64 0, .int .i64 0, .slice none 0 0]) ?_ 1 _ rfl; refine blk_put (cs := #[.int .i64 0, .int .i64 0, .int .i64 0, .slice none 0 0]) ?_ 0 _ rfl; (with_reducible repeat (first | refine blk_drewN ?_ _ | refine blk_drew ?_ | refine blk_alloc ?_ _)); exact BKz1.out⟩, ⟨by repeat (with_reducible first | exact HB.out | refine below_set ?_ GEz1.out)⟩⟩
 case round =>
  clear H'
  try clear c1
  try clear p2
  try clear c9
  try clear c13
  try clear c14
  try clear hcz10_0
  try clear hcz10_1
  try clear hcz10_2
  try clear hcz10_3
  try clear hcz15_0
  try clear hcz15_1
  try clear hcz15_2
  try clear hcz15_3
  try clear hfz10_0
  try clear hfz10_1
  try clear hfz10_2
  try clear hfz10_3
  try clear hfz15_0
  try clear hfz15_1
  try clear hfz15_2
  try clear hfz15_3
  obtain ⟨x12_1, xz1, u98010003, rfl, HA, HK1, HOz0, BKz0, BKz2, BKz1, HB⟩ := hrel
  cases gk with
  | zero => exact absurd HA.out (by simp [spec_crop.l0])
  | succ k1 =>
   have H := HA.out
   clear HA
   simp only [spec_crop.l0] at H
   by_cases c17 : x12_1 < a4
   ·rw [if_pos c17] at H
    have c17b0 : decide (x12_1 < a4) = true := decide_eq_true c17
    clear c17
    have H' := mk H
    clear H
    go_wp2
    go_loopg [13] k1 (fun kq v13 w' => ∃ (x13_2 : Int) (xz0 : List Int) (u98010003 : Value), v13 = .int .i64 x13_2 ∧ Aside0 (spec_crop.l1 kq a1 a2 a3 a4 x12_1 x13_2 a0_0 a0_1 a0_2 l0_3 tz0 tz1 tz2 xz0 = some (r1, r2, r3, r4)) ∧ Aside0 (kq ≤ k1) ∧ Aside0 (Kd.R (Kd.int .i64) 3 w' w.heap.size (fun _ => True) u98010003 xz0) ∧ Aside0 (w'.heap[gbz2]? = some (.cells #[.int .i64 a0_0, .int .i64 a0_1, .int .i64 a0_2, (.slice A0_3 l0_3.length c0_3)] 28 (0, 0))) ∧ Aside0 (w'.heap[gbz1]? = some (.cells #[.int .i64 0, .int .i64 0, .int .i64 0, (.slice none 0 0)] 28 (0, 0))) ∧ Aside0 (w'.heap[gbz0]? = some (.cells #[.int .i64 tz0, .int .i64 tz1, .int .i64 tz2, u98010003] 28 (0, 0))) ∧ Aside0 (Below w.heap.size w w'))
    case atStart => exact ⟨(0), (xz1), (u98010003), (by rfl), H', ⟨Nat.le_refl _⟩, ⟨by (with_reducible repeat (first | apply Kd.R_alloc | apply Kd.R_drewN | apply Kd.R_drew)); exact HOz0.out⟩, ⟨by (with_reducible repeat (first | refine blk_drewN ?_ _ | refine blk_drew ?_ | refine blk_alloc ?_ _)); exact BKz0.out⟩, ⟨by (with_reducible repeat (first | refine blk_drewN ?_ _ | refine blk_drew ?_ | refine blk_alloc ?_ _)); exact BKz2.out⟩, ⟨by (with_reducible repeat (first | refine blk_drewN ?_ _ | refine blk_drew ?_ | refine blk_alloc ?_ _)); exact BKz1.out⟩, ⟨by exact HB.out⟩⟩
    case round =>
     clear H'
     try clear c1
     try clear p2
     try clear c9
     try clear c13
     try clear c14
     try clear c17
     try clear c17b0
     try clear hcz10_0
     try clear hcz10_1
     try clear hcz10_2
     try clear hcz10_3
     try clear hcz15_0
     try clear hcz15_1
     try clear hcz15_2
     try clear hcz15_3
     try clear hfz10_0
     try clear hfz10_1
     try clear hfz10_2
     try clear hfz10_3
     try clear hfz15_0
     try clear hfz15_1
     try clear hfz15_2
     try clear hfz15_3
     try clear p2
     obtain ⟨x13_2, xz0, u98010003, rfl, HA, HK2, HOz0, BKz0, BKz2, BKz1, HB⟩ := hrel
     cases gk with
     | zero => exact absurd HA.out (by simp [spec_crop.l1])
     | succ k2 =>
      have H := HA.out
      clear HA
      simp only [spec_crop.l1] at H
      by_cases c18 : x13_2 < a3
      ·rw [if_pos c18] at H
       have c18b0 : decide (x13_2 < a3) = true := decide_eq_true c18
       clear c18
       replace H := Option.bind_eq_some_iff.mp H
       obtain ⟨tz4, A190, H⟩ := H
       replace H : ((spec_setPixel.f k2 tz0 tz1 tz2 xz0 x13_2 x12_1 tz4).bind fun tz3 => (spec_crop.l1 k2 a1 a2 a3 a4 x12_1 (wrap64 (x13_2 + 1)) a0_0 a0_1 a0_2 l0_3 tz0 tz1 tz2 tz3)) = some (r1, r2, r3, r4) := H
       have A19 := mk A190
       clear A190
       replace H := Option.bind_eq_some_iff.mp H
       obtain ⟨tz3, A200, H⟩ := H
       replace H : (spec_crop.l1 k2 a1 a2 a3 a4 x12_1 (wrap64 (x13_2 + 1)) a0_0 a0_1 a0_2 l0_3 tz0 tz1 tz2 tz3) = some (r1, r2, r3, r4) := H
       have A20 := mk A200
       clear A200
       have H' := mk H
       clear H
       try go_wp2
       have n0_ := mk (Kd.R_drew HOz0.out)
       have n1_ := mk (blk_drew BKz0.out)
       have n2_ := mk (blk_drew BKz2.out)
       have n3_ := mk (blk_drew BKz1.out)
       have n4_ := mk (below_drew1 HB.out)
       clear HOz0 BKz0 BKz2 BKz1 HB
       revert n0_ n1_ n2_ n3_ n4_; intro HOz0 BKz0 BKz2 BKz1 HB
       refine start_ (n := 12) (S := fun w' => w'.cell? ⟨gbz0, 0, none⟩ = some (.int .i64 tz0) ∧ w'.cell? ⟨gbz0, 1, none⟩ = some (.int .i64 tz1) ∧ w'.cell? ⟨gbz0, 2, none⟩ = some (.int .i64 tz2) ∧ w'.cell? ⟨gbz0, 3, none⟩ = some u98010003 ∧ w'.cell? ⟨gbz2, 0, none⟩ = some (.int .i64 a0_0) ∧ w'.cell? ⟨gbz2, 1, none⟩ = some (.int .i64 a0_1) ∧ w'.cell? ⟨gbz2, 2, none⟩ = some (.int .i64 a0_2) ∧ w'.cell? ⟨gbz2, 3, none⟩ = some (.slice A0_3 l0_3.length c0_3)) (ds := []) #[false, false, false, false, false, false, false, false, false, false, false, false] (by kernel_rfl) rfl rfl ⟨(blk_cell BKz1.out 0).trans rfl, (blk_cell BKz1.out 1).trans rfl, (blk_cell BKz1.out 2).trans rfl, (blk_cell BKz1.out 3).trans rfl, (blk_cell BKz0.out 0).trans rfl, (blk_cell BKz0.out 1).trans rfl, (blk_cell BKz0.out 2).trans rfl, (blk_cell BKz0.out 3).trans rfl⟩ (fun hHeld => ?_); refine with_tabW spec_crop.tab8 spec_crop.bits8 (fun HT_ HW_ => ?_)
       generalize wr.drew = w21 at HOz0 BKz0 BKz2 BKz1 HB hHeld ⊢
       refine pure_ (i := 1) (N := some 30) (v := ?_) (a' := ?_) #[false, true, false, false, false, false, false, false, false, false, false, false] rfl rfl (any_of HT_.out (by kernel_rfl)) (fun _ _ _ h => h) (Or.inl ⟨by rfl, ?_⟩) ?_ ?_
       rotate_left
       ·intro w'
        go_simp
        with_reducible rfl
       rotate_left
       ·simp only [Act.put, List.setIfInBounds_toArray, List.set_cons_zero, List.set_cons_succ, i64_w, i32_w]
        rfl
       refine pure_ (i := 2) (N := some 31) (v := ?_) (a' := ?_) #[false, true, true, false, false, false, false, false, false, false, false, false] rfl rfl (any_of HT_.out (by kernel_rfl)) (fun _ _ _ h => h) (Or.inl ⟨by rfl, ?_⟩) ?_ ?_
       rotate_left
       ·intro w'
        go_simp
        with_reducible rfl
       rotate_left
       ·simp only [Act.put, List.setIfInBounds_toArray, List.set_cons_zero, List.set_cons_succ, i64_w, i32_w]
        rfl
       refine pure_ (i := 4) (N := some 33) (v := ?_) (a' := ?_) #[false, true, true, false, true, false, false, false, false, false, false, false] rfl rfl (any_of HT_.out (by kernel_rfl)) (fun _ _ _ h => h) (Or.inl ⟨by rfl, ?_⟩) ?_ ?_
       rotate_left
       ·intro w'
        go_simp
        with_reducible rfl
       rotate_left
       ·simp only [Act.put, List.setIfInBounds_toArray, List.set_cons_zero, List.set_cons_succ, i64_w, i32_w]
        rfl
       refine pure_ (i := 5) (N := some 34) (v := ?_) (a' := ?_) #[false, true, true, false, true, true, false, false, false, false, false, false] rfl rfl (any_of HT_.out (by kernel_rfl)) (fun _ _ _ h => h) (Or.inl ⟨by rfl, ?_⟩) ?_ ?_
       rotate_left
       ·intro w'
        go_simp
        with_reducible rfl
       rotate_left
       ·simp only [Act.put, List.setIfInBounds_toArray, List.set_cons_zero, List.set_cons_succ, i64_w, i32_w]
        rfl
       refine pure_ (i := 6) (N := some 35) (v := ?_) (a' := ?_) #[false, true, true, false, true, true, true, false, false, false, false, false] rfl rfl (any_of HT_.out (by kernel_rfl)) (fun _ _ _ h => h) (Or.inl ⟨by rfl, ?_⟩) ?_ ?_
       rotate_left
       ·intro w'
        go_simp
        with_reducible rfl
       rotate_left
       ·simp only [Act.put, List.setIfInBounds_toArray, List.set_cons_zero, List.set_cons_succ, i64_w, i32_w]
        rfl
       refine pure_ (i := 7) (N := some 36) (v := ?_) (a' := ?_) #[false, true, true, false, true, true, true, true, false, false, false, false] rfl rfl (any_of HT_.out (by kernel_rfl)) (fun _ _ _ h => h) (Or.inl ⟨by rfl, ?_⟩) ?_ ?_
       rotate_left
       ·intro w'
        go_simp
        with_reducible rfl
       rotate_left
       ·simp only [Act.put, List.setIfInBounds_toArray, List.set_cons_zero, List.set_cons_succ, i64_w, i32_w]
        rfl
       refine pure_ (i := 8) (N := some 37) (v := ?_) (a' := ?_) #[false, true, true, false, true, true, true, true, true, false, false, false] rfl rfl (any_of HT_.out (by kernel_rfl)) (fun _ _ _ h => h) (Or.inl ⟨by rfl, ?_⟩) ?_ ?_
       rotate_left
       ·intro w'
        go_simp
        with_reducible rfl
       rotate_left
       ·simp only [Act.put, List.setIfInBounds_toArray, List.set_cons_zero, List.set_cons_succ, i64_w, i32_w]
        rfl
       refine pure_ (i := 9) (N := some 38) (v := ?_) (a' := ?_) #[false, true, true, false, true, true, true, true, true, true, false, false] rfl rfl (any_of HT_.out (by kernel_rfl)) (fun _ _ _ h => h) (Or.inl ⟨by rfl, ?_⟩) ?_ ?_
       rotate_left
       ·intro w'
        go_simp
        with_reducible rfl
       rotate_left
       ·simp only [Act.put, List.setIfInBounds_toArray, List.set_cons_zero, List.set_cons_succ, i64_w, i32_w]
        rfl
       refine take_ (i := 0) (N := some 29) (v := ?_) (a' := ?_) #[true, true, true, false, true, true, true, true, true, true, false, false] rfl rfl (take_ofW HT_.out HW_.out (by kernel_rfl)) (fun _ _ _ h => h) (Or.inl ⟨by rfl, ?_⟩) hHeld ?_ ?_
       rotate_left
       ·rintro w' ⟨s0, s1, s2, s3, s4, s5, s6, s7⟩
        go_simp
        with_reducible rfl
       rotate_left
       ·simp only [Act.put, List.setIfInBounds_toArray, List.set_cons_zero, List.set_cons_succ, i64_w, i32_w]
        rfl
       refine take_ (i := 3) (N := some 32) (v := ?_) (a' := ?_) #[true, true, true, true, true, true, true, true, true, true, false, false] rfl rfl (take_ofW HT_.out HW_.out (by kernel_rfl)) (fun _ _ _ h => h) (Or.inl ⟨by rfl, ?_⟩) hHeld ?_ ?_
       rotate_left
       ·rintro w' ⟨s0, s1, s2, s3, s4, s5, s6, s7⟩
        go_simp
        with_reducible rfl
       rotate_left
       ·simp only [Act.put, List.setIfInBounds_toArray, List.set_cons_zero, List.set_cons_succ, i64_w, i32_w]
        rfl
       refine one_ (i := 10) (N := some 39) #[true, true, true, true, true, true, true, true, true, true, true, false] rfl rfl (one_of HT_.out (by kernel_rfl)) (by decide) (fun K hK => ?_)
       refine goes_ Try.func95 (by kernel_rfl) rfl #[.agg #[.int .i64 a0_0, .int .i64 a0_1, .int .i64 a0_2, .slice A0_3 l0_3.length c0_3], .int .i64 (wrap64 (a1 + x13_2)), .int .i64 (wrap64 (a2 + x12_1))] (by rfl) rfl rfl (by (try simp only [List.map_toArray, List.map_cons, List.map_nil]); rfl) ?_
       with_reducible refine (spec_pixelAt.calls a0_0 a0_1 a0_2 _ _ l0_3 (wrap64 (a1 + x13_2)) (wrap64 (a2 + x12_1)) tz4 _ ?side1 ?side2 A19.out).mono ?_
       (case side1 => repeat (exact (Kd.C_below HR0_3.out HB.out)))
       (case side2 => exact HC0_3.out)
       rintro e w22 ⟨vz1, rfl, ho0, hb⟩
       refine ⟨_, rfl, ?_⟩
       have n0_ := mk (Kd.R_elder' HOz0.out (Kd.R_base ho0) hb)
       have n1_ := mk (Kd.R_lower (Kd.R_new' ho0 (Kd.R_lt HOz0.out)) (below_size HB.out))
       have n2_ := mk (blk_below BKz0.out hb)
       have n3_ := mk (blk_below BKz2.out hb)
       have n4_ := mk (blk_below BKz1.out hb)
       have n5_ := mk (below_step HB.out hb)
       clear HOz0 BKz0 BKz2 BKz1 HB
       revert n0_ n1_ n2_ n3_ n4_ n5_; intro HOz0 HOz1 BKz0 BKz2 BKz1 HB
       (try clear hb)
       (try clear ho0)
       obtain ⟨Ao23, co23, eo23⟩ := Kd.R_slice HOz0.out
       (subst eo23)
       obtain ⟨Ao24, co24, eo24⟩ := Kd.R_slice HOz1.out
       (subst eo24)
       refine hK.out _ _ ⟨(blk_cell BKz1.out 0).trans rfl, (blk_cell BKz1.out 1).trans rfl, (blk_cell BKz1.out 2).trans rfl, (blk_cell BKz1.out 3).trans rfl, (blk_cell BKz0.out 0).trans rfl, (blk_cell BKz0.out 1).trans rfl, (blk_cell BKz0.out 2).trans rfl, (blk_cell BKz0.out 3).trans rfl⟩ (fun hHeld => ?_)
       clear hK K
       refine norm_ (a' := ?_) ?_ ?_
       rotate_left
       ·show Act.put _ (some 39) _ = _
        simp only [Act.put, List.setIfInBounds_toArray, List.set_cons_zero, List.set_cons_succ, i64_w, i32_w]
        rfl
       refine one_ (i := 11) (N := some 40) #[true, true, true, true, true, true, true, true, true, true, true, true] rfl rfl (one_of HT_.out (by kernel_rfl)) (by decide) (fun K hK => ?_)
       refine goes_ Try.func94 (by kernel_rfl) rfl #[.agg #[.int .i64 tz0, .int .i64 tz1, .int .i64 tz2, .slice Ao23 xz0.length co23], .int .i64 x13_2, .int .i64 x12_1, .slice Ao24 tz4.length co24] (by rfl) rfl rfl (by (try simp only [List.map_toArray, List.map_cons, List.map_nil]); rfl) ?_
       with_reducible refine (spec_setPixel.calls k2 tz0 tz1 tz2 (fun k_ => some k_ = (.slice Ao23 xz0.length co23 : Value).ownBlock) (.slice Ao23 xz0.length co23) xz0 x13_2 x12_1 _ _ tz4 tz3 w _ ?side1 ?side2 ?side3 ?side4 A20.out).mono ?_
       (case side1 => repeat (with_reducible exact HB.out))
       (case side2 => exact Kd.R_tight rfl HOz0.out)
       (case side3 => exact Kd.C_kept_own HOz1.out (fun k_ hk_ hs_ => hk_.2 hs_))
       (case side4 => exact (Kd.R_reads' HOz1.out).2.1)
       rintro e w25 ⟨rfl, hy0, hb, hkp⟩
       refine ⟨_, rfl, ?_⟩
       have n0_ := mk (Kd.R_reok rfl hy0 (fun k_ e_ => HOz0.out.1 k_ e_))
       have n1_ := mk (blk_kept BKz0.out hkp (fun hs_ => (fun e_ => (Kd.R_ne HOz0.out BKz0.out (by decide)) e_) hs_))
       have n2_ := mk (blk_kept BKz2.out hkp (fun hs_ => (fun e_ => (Kd.R_ne HOz0.out BKz2.out (by decide)) e_) hs_))
       have n3_ := mk (blk_kept BKz1.out hkp (fun hs_ => (fun e_ => (Kd.R_ne HOz0.out BKz1.out (by decide)) e_) hs_))
       have n4_ := mk (Kd.R_mono (ok' := fun k_ => some k_ ≠ (.slice Ao23 xz0.length co23 : Value).ownBlock) (Kd.R_keptB HOz1.out hkp (fun k_ hk_ hs_ => hk_.2 hs_)) (fun k_ hk_ => hk_.1.2))
       have n5_ := mk (hb)
       clear HOz0 BKz0 BKz2 BKz1 HOz1 HB
       revert n0_ n1_ n2_ n3_ n4_ n5_; intro HOz0 BKz0 BKz2 BKz1 HOz1 HB
       (try clear hb)
       (try clear hkp)
       (try clear hy0)
       refine hK.out _ _ ⟨(blk_cell BKz1.out 0).trans rfl, (blk_cell BKz1.out 1).trans rfl, (blk_cell BKz1.out 2).trans rfl, (blk_cell BKz1.out 3).trans rfl, (blk_cell BKz0.out 0).trans rfl, (blk_cell BKz0.out 1).trans rfl, (blk_cell BKz0.out 2).trans rfl, (blk_cell BKz0.out 3).trans rfl⟩ (fun hHeld => ?_)
       clear hK K
       refine norm_ (a' := ?_) ?_ ?_
       rotate_left
       ·show Act.put _ (some 40) _ = _
        simp only [Act.put, List.setIfInBounds_toArray, List.set_cons_zero, List.set_cons_succ, i64_w, i32_w]
        rfl
       refine done_ (done_of HT_.out (by kernel_rfl)) ?_
       try go_wp2
       go_roundg k2
       case measure => have := HK1.out; have := HK2.out; omega
       case rel => exact ⟨(wrap64 (x13_2 + 1)), (tz3), (.slice Ao23 xz0.length co23), (by rfl), H', ⟨by have := HK1.out; have := HK2.out; omega⟩, ⟨by (with_reducible repeat (first | apply Kd.R_alloc | apply Kd.R_drewN | apply Kd.R_drew)); exact Kd.R_mono HOz0.out (fun _ hk => trivial)⟩, ⟨by (with_reducible repeat (first | refine blk_drewN ?_ _ | refine blk_drew ?_ | refine blk_alloc ?_ _)); exact BKz0.out⟩, ⟨by (with_reducible repeat (first | refine blk_drewN ?_ _ | refine blk_drew ?_ | refine blk_alloc ?_ _)); exact BKz2.out⟩, ⟨by (with_reducible repeat (first | refine blk_drewN ?_ _ | refine blk_drew ?_ | refine blk_alloc ?_ _)); exact BKz1.out⟩, ⟨by exact HB.out⟩⟩
      rw [if_neg c18] at H
      have c18b0 : decide (x13_2 < a3) = false := decide_eq_false c18
      clear c18
      have H' := mk H
      clear H
      go_wp2
      go_roundg k2
      case measure => have := HK1.out; have := HK2.out; omega
      case rel => exact ⟨(wrap64 (x12_1 + 1)), (xz0), (u98010003), (by rfl), H', ⟨by have := HK1.out; have := HK2.out; omega⟩, ⟨by (with_reducible repeat (first | apply Kd.R_alloc | apply Kd.R_drewN | apply Kd.R_drew)); exact HOz0.out⟩, ⟨by (with_reducible repeat (first | refine blk_drewN ?_ _ | refine blk_drew ?_ | refine blk_alloc ?_ _)); exact BKz0.out⟩, ⟨by (with_reducible repeat (first | refine blk_drewN ?_ _ | refine blk_drew ?_ | refine blk_alloc ?_ _)); exact BKz2.out⟩, ⟨by (with_reducible repeat (first | refine blk_drewN ?_ _ | refine blk_drew ?_ | refine blk_alloc ?_ _)); exact BKz1.out⟩, ⟨by exact HB.out⟩⟩
   rw [if_neg c17] at H
   have c17b0 : decide (x12_1 < a4) = false := decide_eq_false c17
   clear c17
   simp only [Option.some.injEq, Prod.mk.injEq] at H
   obtain ⟨rfl, rfl, rfl, rfl⟩ := H
   have hcz28_0 : wr.cell? ⟨gbz0, 0, none⟩ = some (.int .i64 tz0) := (blk_cell BKz1.out 0).trans rfl
   have hcz28_1 : wr.cell? ⟨gbz0, 1, none⟩ = some (.int .i64 tz1) := (blk_cell BKz1.out 1).trans rfl
   have hcz28_2 : wr.cell? ⟨gbz0, 2, none⟩ = some (.int .i64 tz2) := (blk_cell BKz1.out 2).trans rfl
   have hcz28_3 : wr.cell? ⟨gbz0, 3, none⟩ = some u98010003 := (blk_cell BKz1.out 3).trans rfl
   have hcz30_0 : wr.cell? ⟨gbz1, 0, none⟩ = some (.int .i64 0) := (blk_cell BKz2.out 0).trans rfl
   have hcz30_1 : wr.cell? ⟨gbz1, 1, none⟩ = some (.int .i64 0) := (blk_cell BKz2.out 1).trans rfl
   have hcz30_2 : wr.cell? ⟨gbz1, 2, none⟩ = some (.int .i64 0) := (blk_cell BKz2.out 2).trans rfl
   have hcz30_3 : wr.cell? ⟨gbz1, 3, none⟩ = some (.slice none 0 0) := (blk_cell BKz2.out 3).trans rfl
   have hfz30_0 := blk_frozen BKz2.out 0
   have hfz30_1 := blk_frozen BKz2.out 1
   have hfz30_2 := blk_frozen BKz2.out 2
   have hfz30_3 := blk_frozen BKz2.out 3
   obtain ⟨Ao31, co31, eo31⟩ := Kd.R_slice HOz0.out
   subst eo31
   go_wp2
   refine bodyPost_ret (results_cell_row rfl _ _ gbz1 28 #[.int .i64 tz0, .int .i64 tz1, .int .i64 tz2, .slice Ao31 xz1.length co31] (0, 0) _ rfl (by refine blk_put (cs := #[.int .i64 tz0, .int .i64 tz1, .int .i64 tz2, .slice none 0 0]) ?_ 3 _ rfl; refine blk_put (cs := #[.int .i64 tz0, .int .i64 tz1, .int .i64 0, .slice none 0 0]) ?_ 2 _ rfl; refine blk_put (cs := #[.int .i64 tz0, .int .i64 0, .int .i64 0, .slice none 0 0]) ?_ 1 _ rfl; refine blk_put (cs := #[.int .i64 0, .int .i64 0, .int .i64 0, .slice none 0 0]) ?_ 0 _ rfl; (with_reducible repeat (first | refine blk_drewN ?_ _ | refine blk_drew ?_ | refine blk_alloc ?_ _)); exact BKz2.out) Try.underlying28 rfl (by kernel_rfl)) rfl ?_
   exact ⟨_, by rfl, by (with_reducible repeat (first | apply Kd.R_alloc | apply Kd.R_drewN | apply Kd.R_drew)); exact Kd.R_mono (Kd.R_far (p := ⟨gbz1, 3, none⟩) (Kd.R_far (p := ⟨gbz1, 2, none⟩) (Kd.R_far (p := ⟨gbz1, 1, none⟩) (Kd.R_far (p := ⟨gbz1, 0, none⟩) (Kd.R_types HOz0.out BKz2.out (by decide)) (fun _ hk => hk.2) (.int .i64 tz0)) (fun _ hk => hk.2) (.int .i64 tz1)) (fun _ hk => hk.2) (.int .i64 tz2)) (fun _ hk => hk.2) (.slice Ao31 xz1.length co31)) (fun _ hk => trivial), by repeat (with_reducible first | exact HB.out | refine below_set ?_ GEz0.out)⟩


def spec_CropImage.f (k : Nat) (a0_0 : Int) (a0_1 : Int) (a0_2 : Int) (l0_3 : List Int) (a1_0 : Int) (a1_1 : Int) (a1_2 : Int) (a1_3 : Int) : Option (Int × Int × Int × List Int × Bool) := (spec_validImage.f k a0_0 a0_1 a0_2 l0_3).bind fun tz2 => (if tz2 = true then ((spec_validBox.f a0_0 a0_1 a0_2 l0_3 a1_0 a1_1 a1_2 a1_3).bind fun tz0 => (if tz0 = true then ((spec_crop.f k a0_0 a0_1 a0_2 l0_3 a1_0 a1_1 a1_2 a1_3).bind fun btz0 => (some (btz0.1, btz0.2.1, btz0.2.2.1, btz0.2.2.2, true))) else (some (0, 0, 0, ([] : List Int), false)))) else (some (0, 0, 0, ([] : List Int), false)))
theorem spec_CropImage.mono : ∀ a0 a1 a2 a3 a4 a5 a6 a7 k, LeO (spec_CropImage.f k a0 a1 a2 a3 a4 a5 a6 a7) (spec_CropImage.f (k + 1) a0 a1 a2 a3 a4 a5 a6 a7) := by
 intro a0 a1 a2 a3 a4 a5 a6 a7 k
 unfold spec_CropImage.f
 repeat' first | (with_reducible exact spec_crop.mono _ _ _ _ _ _ _ _ _) | (with_reducible exact spec_validImage.mono _ _ _ _ _) | (with_reducible exact LeO.refl _) | (with_reducible refine LeO.ite ?_ ?_) | (with_reducible refine LeO.bind ?_ (fun _ => ?_))
set_option maxHeartbeats 8000000 in
set_option maxRecDepth 100000 in
theorem spec_CropImage.calls (k : Nat) (a0_0 : Int) (a0_1 : Int) (a0_2 : Int) (A0_3 : Option Addr) (c0_3 : Nat) (l0_3 : List Int) (a1_0 : Int) (a1_1 : Int) (a1_2 : Int) (a1_3 : Int) (r1 : Int) (r2 : Int) (r3 : Int) (r4 : List Int) (r5 : Bool) (w : World) (hr0_3 : Kd.C (Kd.int .i64) w A0_3 l0_3.length l0_3) (hc0_3 : l0_3.length ≤ c0_3) (h : spec_CropImage.f k a0_0 a0_1 a0_2 l0_3 a1_0 a1_1 a1_2 a1_3 = some (r1, r2, r3, r4, r5)) :
  Calls Try.prog 75 #[.agg #[.int .i64 a0_0, .int .i64 a0_1, .int .i64 a0_2, .slice A0_3 l0_3.length c0_3], .agg #[.int .i64 a1_0, .int .i64 a1_1, .int .i64 a1_2, .int .i64 a1_3]] w fun e w' => ∃ v3_ : Value, e = .returned (.tuple #[.agg #[.int .i64 r1, .int .i64 r2, .int .i64 r3, v3_], .bool r5]) ∧ Kd.R (Kd.int .i64) 3 w' w.heap.size (fun _ => True) v3_ r4 ∧ Below w.heap.size w w' := by
 have HR0_3 := mk hr0_3
 have HC0_3 := mk hc0_3
 clear hr0_3 hc0_3
 have HB := mk (Below.refl w.heap.size w)
 have H : ((spec_validImage.f k a0_0 a0_1 a0_2 l0_3).bind fun tz2 => (if tz2 = true then ((spec_validBox.f a0_0 a0_1 a0_2 l0_3 a1_0 a1_1 a1_2 a1_3).bind fun tz0 => (if tz0 = true then ((spec_crop.f k a0_0 a0_1 a0_2 l0_3 a1_0 a1_1 a1_2 a1_3).bind fun btz0 => (some (btz0.1, btz0.2.1, btz0.2.2.1, btz0.2.2.2, true))) else (some (0, 0, 0, ([] : List Int), false)))) else (some (0, 0, 0, ([] : List Int), false)))) = some (r1, r2, r3, r4, r5) := h
 clear h
 replace H := Option.bind_eq_some_iff.mp H
 obtain ⟨tz2, A30, H⟩ := H
 replace H : (if tz2 = true then ((spec_validBox.f a0_0 a0_1 a0_2 l0_3 a1_0 a1_1 a1_2 a1_3).bind fun tz0 => (if tz0 = true then ((spec_crop.f k a0_0 a0_1 a0_2 l0_3 a1_0 a1_1 a1_2 a1_3).bind fun btz0 => (some (btz0.1, btz0.2.1, btz0.2.2.1, btz0.2.2.2, true))) else (some (0, 0, 0, ([] : List Int), false)))) else (some (0, 0, 0, ([] : List Int), false))) = some (r1, r2, r3, r4, r5) := H
 have A3 := mk A30
 clear A30
 by_cases c4 : tz2 = true
 ·subst c4
  have H1 : ((spec_validBox.f a0_0 a0_1 a0_2 l0_3 a1_0 a1_1 a1_2 a1_3).bind fun tz0 => (if tz0 = true then ((spec_crop.f k a0_0 a0_1 a0_2 l0_3 a1_0 a1_1 a1_2 a1_3).bind fun btz0 => (some (btz0.1, btz0.2.1, btz0.2.2.1, btz0.2.2.2, true))) else (some (0, 0, 0, ([] : List Int), false)))) = some (r1, r2, r3, r4, r5) := by rw [if_pos rfl] at H; exact H
  clear H
  have H := H1
  clear H1
  replace H := Option.bind_eq_some_iff.mp H
  obtain ⟨tz0, A50, H⟩ := H
  replace H : (if tz0 = true then ((spec_crop.f k a0_0 a0_1 a0_2 l0_3 a1_0 a1_1 a1_2 a1_3).bind fun btz0 => (some (btz0.1, btz0.2.1, btz0.2.2.1, btz0.2.2.2, true))) else (some (0, 0, 0, ([] : List Int), false))) = some (r1, r2, r3, r4, r5) := H
  have A5 := mk A50
  clear A50
  by_cases c6 : tz0 = true
  ·subst c6
   have H1 : ((spec_crop.f k a0_0 a0_1 a0_2 l0_3 a1_0 a1_1 a1_2 a1_3).bind fun btz0 => (some (btz0.1, btz0.2.1, btz0.2.2.1, btz0.2.2.2, true))) = some (r1, r2, r3, r4, r5) := by rw [if_pos rfl] at H; exact H
   clear H
   have H := H1
   clear H1
   replace H := Option.bind_eq_some_iff.mp H
   obtain ⟨⟨tz1, tz3, tz4, tz5⟩, A70, H⟩ := H
   replace H : (some (tz1, tz3, tz4, tz5, true)) = some (r1, r2, r3, r4, r5) := H
   have A7 := mk A70
   clear A70
   simp only [Option.some.injEq, Prod.mk.injEq] at H
   obtain ⟨rfl, rfl, rfl, rfl, rfl⟩ := H
   go_enter Try.func75, Try.ntmps75
   go_wp2_with (first | ((with_reducible refine gate_dst (N := 2) rfl ?_); refine box_event (by rfl) (N := 2) (by rfl) (cs := #[.int .i64 a0_0, .int .i64 a0_1, .int .i64 a0_2, .slice A0_3 l0_3.length c0_3]) (t := 28) (by go_simp; done) ?_; intro gbz0 hg w8 hbox hb; replace HB := mk (below_step HB.out hb); have BKz0 := mk (hbox); clear hb hbox hg) | ((with_reducible refine gate_dst (N := 3) rfl ?_); refine box_event (by rfl) (N := 3) (by rfl) (cs := #[.int .i64 a1_0, .int .i64 a1_1, .int .i64 a1_2, .int .i64 a1_3]) (t := 41) (by go_simp; done) ?_; intro gbz2 hg w9 hbox hb; replace BKz0 := mk (blk_below BKz0.out hb); replace HB := mk (below_step HB.out hb); have BKz2 := mk (hbox); clear hb hbox hg) | ((with_reducible refine gate_dst (N := 4) rfl ?_); refine box_event (by rfl) (N := 4) (by rfl) (cs := #[.int .i64 0, .int .i64 0, .int .i64 0, .slice none 0 0]) (t := 28) (by go_simp; done) ?_; intro gbz1 hg w10 hbox hb; replace BKz0 := mk (blk_below BKz0.out hb); replace BKz2 := mk (blk_below BKz2.out hb); have BKz1 := mk (hbox); have GEz0 := mk ((by rw [hg]; exact (below_size HB.out) : w.heap.size ≤ gbz1)); replace HB := mk (below_step HB.out hb); clear hb hbox hg; have hcz13_0 : w10.cell? ⟨gbz0, 0, none⟩ = some (.int .i64 a0_0) := (blk_cell BKz0.out 0).trans rfl; have hcz13_1 : w10.cell? ⟨gbz0, 1, none⟩ = some (.int .i64 a0_1) := (blk_cell BKz0.out 1).trans rfl; have hcz13_2 : w10.cell? ⟨gbz0, 2, none⟩ = some (.int .i64 a0_2) := (blk_cell BKz0.out 2).trans rfl; have hcz13_3 : w10.cell? ⟨gbz0, 3, none⟩ = some (.slice A0_3 l0_3.length c0_3) := (blk_cell BKz0.out 3).trans rfl) | ((with_reducible refine gate_callee (f := 39) rfl ?_); refine goesL_ (some 7) rfl rfl Try.func39 (by kernel_rfl) rfl #[.agg #[.int .i64 a0_0, .int .i64 a0_1, .int .i64 a0_2, .slice A0_3 l0_3.length c0_3]] rfl (by (try simp only [List.map_toArray, List.map_cons, List.map_nil]); rfl) ?_; (with_reducible refine (spec_validImage.calls k a0_0 a0_1 a0_2 _ _ l0_3 true _ ?side1 ?side2 A3.out).mono ?_); (case side1 => repeat (exact (Kd.C_below HR0_3.out HB.out))); (case side2 => exact HC0_3.out); rintro e w14 ⟨rfl, hb⟩; refine ⟨_, rfl, ?_⟩; replace BKz0 := mk (blk_below BKz0.out hb); replace BKz2 := mk (blk_below BKz2.out hb); replace BKz1 := mk (blk_below BKz1.out hb); replace HB := mk (below_step HB.out hb); (try clear hb); have hcz15_0 : w14.cell? ⟨gbz0, 0, none⟩ = some (.int .i64 a0_0) := (blk_cell BKz0.out 0).trans rfl; have hcz15_1 : w14.cell? ⟨gbz0, 1, none⟩ = some (.int .i64 a0_1) := (blk_cell BKz0.out 1).trans rfl; have hcz15_2 : w14.cell? ⟨gbz0, 2, none⟩ = some (.int .i64 a0_2) := (blk_cell BKz0.out 2).trans rfl; have hcz15_3 : w14.cell? ⟨gbz0, 3, none⟩ = some (.slice A0_3 l0_3.length c0_3) := (blk_cell BKz0.out 3).trans rfl; have hcz17_0 : w14.cell? ⟨gbz2, 0, none⟩ = some (.int .i64 a1_0) := (blk_cell BKz2.out 0).trans rfl; have hcz17_1 : w14.cell? ⟨gbz2, 1, none⟩ = some (.int .i64 a1_1) := (blk_cell BKz2.out 1).trans rfl; have hcz17_2 : w14.cell? ⟨gbz2, 2, none⟩ = some (.int .i64 a1_2) := (blk_cell BKz2.out 2).trans rfl; have hcz17_3 : w14.cell? ⟨gbz2, 3, none⟩ = some (.int .i64 a1_3) := (blk_cell BKz2.out 3).trans rfl) | (go_at_call 76; (with_reducible refine (spec_validBox.calls a0_0 a0_1 a0_2 _ _ l0_3 a1_0 a1_1 a1_2 a1_3 true _ ?side1 ?side2 A5.out).mono ?_); (case side1 => repeat (exact (Kd.C_below HR0_3.out HB.out))); (case side2 => exact HC0_3.out); rintro e w18 ⟨rfl, hb⟩; replace BKz0 := mk (blk_below BKz0.out hb); replace BKz2 := mk (blk_below BKz2.out hb); replace BKz1 := mk (blk_below BKz1.out hb); replace HB := mk (below_step HB.out hb); (try clear hb); have hcz19_0 : w18.cell? ⟨gbz0, 0, none⟩ = some (.int .i64 a0_0) := (blk_cell BKz0.out 0).trans rfl; have hcz19_1 : w18.cell? ⟨gbz0, 1, none⟩ = some (.int .i64 a0_1) := (blk_cell BKz0.out 1).trans rfl; have hcz19_2 : w18.cell? ⟨gbz0, 2, none⟩ = some (.int .i64 a0_2) := (blk_cell BKz0.out 2).trans rfl; have hcz19_3 : w18.cell? ⟨gbz0, 3, none⟩ = some (.slice A0_3 l0_3.length c0_3) := (blk_cell BKz0.out 3).trans rfl; have hcz20_0 : w18.cell? ⟨gbz2, 0, none⟩ = some (.int .i64 a1_0) := (blk_cell BKz2.out 0).trans rfl; have hcz20_1 : w18.cell? ⟨gbz2, 1, none⟩ = some (.int .i64 a1_1) := (blk_cell BKz2.out 1).trans rfl; have hcz20_2 : w18.cell? ⟨gbz2, 2, none⟩ = some (.int .i64 a1_2) := (blk_cell BKz2.out 2).trans rfl; have hcz20_3 : w18.cell? ⟨gbz2, 3, none⟩ = some (.int .i64 a1_3) := (blk_cell BKz2.out 3).trans rfl) | ((with_reducible refine gate_callee (f := 97) rfl ?_); refine goesL_ (some 25) rfl rfl Try.func97 (by kernel_rfl) rfl #[.agg #[.int .i64 a0_0, .int .i64 a0_1, .int .i64 a0_2, .slice A0_3 l0_3.length c0_3], .int .i64 a1_0, .int .i64 a1_1, .int .i64 a1_2, .int .i64 a1_3] rfl (by (try simp only [List.map_toArray, List.map_cons, List.map_nil]); rfl) ?_; (with_reducible refine (spec_crop.calls k a0_0 a0_1 a0_2 _ _ l0_3 a1_0 a1_1 a1_2 a1_3 tz1 tz3 tz4 tz5 _ ?side1 ?side2 A7.out).mono ?_); (case side1 => repeat (exact (Kd.C_below HR0_3.out HB.out))); (case side2 => exact HC0_3.out); rintro e w21 ⟨vz0, rfl, ho0, hb⟩; refine ⟨_, rfl, ?_⟩; have n0_ := mk (Kd.R_lower ho0 (below_size HB.out)); have n3_ := mk (blk_below BKz1.out hb); have n4_ := mk (below_step HB.out hb); clear BKz0; clear BKz2; clear BKz1; clear HB; have HOz0 := n0_; have BKz1 := n3_; have HB := n4_; (try clear hb); (try clear ho0); have hcz22_0 : w21.cell? ⟨gbz1, 0, none⟩ = some (.int .i64 0) := (blk_cell BKz1.out 0).trans rfl; have hcz22_1 : w21.cell? ⟨gbz1, 1, none⟩ = some (.int .i64 0) := (blk_cell BKz1.out 1).trans rfl; have hcz22_2 : w21.cell? ⟨gbz1, 2, none⟩ = some (.int .i64 0) := (blk_cell BKz1.out 2).trans rfl; have hcz22_3 : w21.cell? ⟨gbz1, 3, none⟩ = some (.slice none 0 0) := (blk_cell BKz1.out 3).trans rfl; have hfz22_0 := blk_frozen BKz1.out 0; have hfz22_1 := blk_frozen BKz1.out 1; have hfz22_2 := blk_frozen BKz1.out 2; have hfz22_3 := blk_frozen BKz1.out 3; obtain ⟨Ao23, co23, eo23⟩ := Kd.R_slice HOz0.out; subst eo23))
   refine bodyPost_ret (results_ct rfl _ _ gbz1 28 #[.int .i64 tz1, .int .i64 tz3, .int .i64 tz4, .slice Ao23 tz5.length co23] (0, 0) _ rfl (by refine blk_put (cs := #[.int .i64 tz1, .int .i64 tz3, .int .i64 tz4, .slice none 0 0]) ?_ 3 _ rfl; refine blk_put (cs := #[.int .i64 tz1, .int .i64 tz3, .int .i64 0, .slice none 0 0]) ?_ 2 _ rfl; refine blk_put (cs := #[.int .i64 tz1, .int .i64 0, .int .i64 0, .slice none 0 0]) ?_ 1 _ rfl; refine blk_put (cs := #[.int .i64 0, .int .i64 0, .int .i64 0, .slice none 0 0]) ?_ 0 _ rfl; (with_reducible repeat (first | refine blk_drewN ?_ _ | refine blk_drew ?_ | refine blk_alloc ?_ _)); exact BKz1.out) Try.underlying28 rfl (by kernel_rfl)) rfl ?_
   exact ⟨_, by rfl, by (with_reducible repeat (first | apply Kd.R_alloc | apply Kd.R_drewN | apply Kd.R_drew)); exact Kd.R_mono (Kd.R_far (p := ⟨gbz1, 3, none⟩) (Kd.R_far (p := ⟨gbz1, 2, none⟩) (Kd.R_far (p := ⟨gbz1, 1, none⟩) (Kd.R_far (p := ⟨gbz1, 0, none⟩) (Kd.R_types HOz0.out BKz1.out (by decide)) (fun _ hk => hk.2) (.int .i64 tz1)) (fun _ hk => hk.2) (.int .i64 tz3)) (fun _ hk => hk.2) (.int .i64 tz4)) (fun _ hk => hk.2) (.slice Ao23 tz5.length co23)) (fun _ hk => trivial), by repeat (with_reducible first | exact HB.out | refine below_set ?_ GEz0.out)⟩
  replace c6 := Bool.eq_false_iff.mpr c6
  subst c6
  have H1 : (some (0, 0, 0, ([] : List Int), false)) = some (r1, r2, r3, r4, r5) := by rw [if_neg (show ¬ (false = true) by decide)] at H; exact H
  clear H
  have H := H1
  clear H1
  simp only [Option.some.injEq, Prod.mk.injEq] at H
  obtain ⟨rfl, rfl, rfl, rfl, rfl⟩ := H
  go_enter Try.func75, Try.ntmps75
  go_wp2_with (first | ((with_reducible refine gate_dst (N := 2) rfl ?_); refine box_event (by rfl) (N := 2) (by rfl) (cs := #[.int .i64 a0_0, .int .i64 a0_1, .int .i64 a0_2, .slice A0_3 l0_3.length c0_3]) (t := 28) (by go_simp; done) ?_; intro gbz0 hg w24 hbox hb; replace HB := mk (below_step HB.out hb); have BKz0 := mk (hbox); clear hb hbox hg) | ((with_reducible refine gate_dst (N := 3) rfl ?_); refine box_event (by rfl) (N := 3) (by rfl) (cs := #[.int .i64 a1_0, .int .i64 a1_1, .int .i64 a1_2, .int .i64 a1_3]) (t := 41) (by go_simp; done) ?_; intro gbz2 hg w25 hbox hb; replace BKz0 := mk (blk_below BKz0.out hb); replace HB := mk (below_step HB.out hb); have BKz2 := mk (hbox); clear hb hbox hg) | ((with_reducible refine gate_dst (N := 4) rfl ?_); refine box_event (by rfl) (N := 4) (by rfl) (cs := #[.int .i64 0, .int .i64 0, .int .i64 0, .slice none 0 0]) (t := 28) (by go_simp; done) ?_; intro gbz1 hg w26 hbox hb; replace BKz0 := mk (blk_below BKz0.out hb); replace BKz2 := mk (blk_below BKz2.out hb); have BKz1 := mk (hbox); have GEz0 := mk ((by rw [hg]; exact (below_size HB.out) : w.heap.size ≤ gbz1)); replace HB := mk (below_step HB.out hb); clear hb hbox hg; have hcz29_0 : w26.cell? ⟨gbz0, 0, none⟩ = some (.int .i64 a0_0) := (blk_cell BKz0.out 0).trans rfl; have hcz29_1 : w26.cell? ⟨gbz0, 1, none⟩ = some (.int .i64 a0_1) := (blk_cell BKz0.out 1).trans rfl; have hcz29_2 : w26.cell? ⟨gbz0, 2, none⟩ = some (.int .i64 a0_2) := (blk_cell BKz0.out 2).trans rfl; have hcz29_3 : w26.cell? ⟨gbz0, 3, none⟩ = some (.slice A0_3 l0_3.length c0_3) := (blk_cell BKz0.out 3).trans rfl) | ((with_reducible refine gate_callee (f := 39) rfl ?_); refine goesL_ (some 7) rfl rfl Try.func39 (by kernel_rfl) rfl #[.agg #[.int .i64 a0_0, .int .i64 a0_1, .int .i64 a0_2, .slice A0_3 l0_3.length c0_3]] rfl (by (try simp only [List.map_toArray, List.map_cons, List.map_nil]); rfl) ?_; (with_reducible refine (spec_validImage.calls k a0_0 a0_1 a0_2 _ _ l0_3 true _ ?side1 ?side2 A3.out).mono ?_); (case side1 => repeat (exact (Kd.C_below HR0_3.out HB.out))); (case side2 => exact HC0_3.out); rintro e w30 ⟨rfl, hb⟩; refine ⟨_, rfl, ?_⟩; replace BKz0 := mk (blk_below BKz0.out hb); replace BKz2 := mk (blk_below BKz2.out hb); replace BKz1 := mk (blk_below BKz1.out hb); replace HB := mk (below_step HB.out hb); (try clear hb); have hcz31_0 : w30.cell? ⟨gbz0, 0, none⟩ = some (.int .i64 a0_0) := (blk_cell BKz0.out 0).trans rfl; have hcz31_1 : w30.cell? ⟨gbz0, 1, none⟩ = some (.int .i64 a0_1) := (blk_cell BKz0.out 1).trans rfl; have hcz31_2 : w30.cell? ⟨gbz0, 2, none⟩ = some (.int .i64 a0_2) := (blk_cell BKz0.out 2).trans rfl; have hcz31_3 : w30.cell? ⟨gbz0, 3, none⟩ = some (.slice A0_3 l0_3.length c0_3) := (blk_cell BKz0.out 3).trans rfl; have hcz33_0 : w30.cell? ⟨gbz2, 0, none⟩ = some (.int .i64 a1_0) := (blk_cell BKz2.out 0).trans rfl; have hcz33_1 : w30.cell? ⟨gbz2, 1, none⟩ = some (.int .i64 a1_1) := (blk_cell BKz2.out 1).trans rfl; have hcz33_2 : w30.cell? ⟨gbz2, 2, none⟩ = some (.int .i64 a1_2) := (blk_cell BKz2.out 2).trans rfl; have hcz33_3 : w30.cell? ⟨gbz2, 3, none⟩ = some (.int .i64 a1_3) := (blk_cell BKz2.out 3).trans rfl) | (go_at_call 76; (with_reducible refine (spec_validBox.calls a0_0 a0_1 a0_2 _ _ l0_3 a1_0 a1_1 a1_2 a1_3 false _ ?side1 ?side2 A5.out).mono ?_); (case side1 => repeat (exact (Kd.C_below HR0_3.out HB.out))); (case side2 => exact HC0_3.out); rintro e w34 ⟨rfl, hb⟩; have n2_ := mk (blk_below BKz1.out hb); have n3_ := mk (below_step HB.out hb); clear BKz0; clear BKz2; clear BKz1; clear HB; have BKz1 := n2_; have HB := n3_; (try clear hb); have hcz35_0 : w34.cell? ⟨gbz1, 0, none⟩ = some (.int .i64 0) := (blk_cell BKz1.out 0).trans rfl; have hcz35_1 : w34.cell? ⟨gbz1, 1, none⟩ = some (.int .i64 0) := (blk_cell BKz1.out 1).trans rfl; have hcz35_2 : w34.cell? ⟨gbz1, 2, none⟩ = some (.int .i64 0) := (blk_cell BKz1.out 2).trans rfl; have hcz35_3 : w34.cell? ⟨gbz1, 3, none⟩ = some (.slice none 0 0) := (blk_cell BKz1.out 3).trans rfl; have hfz35_0 := blk_frozen BKz1.out 0; have hfz35_1 := blk_frozen BKz1.out 1; have hfz35_2 := blk_frozen BKz1.out 2; have hfz35_3 := blk_frozen BKz1.out 3))
  refine bodyPost_ret (results_ct rfl _ _ gbz1 28 #[.int .i64 0, .int .i64 0, .int .i64 0, .slice none 0 0] (0, 0) _ rfl (by refine blk_put (cs := #[.int .i64 0, .int .i64 0, .int .i64 0, .slice none 0 0]) ?_ 3 _ rfl; refine blk_put (cs := #[.int .i64 0, .int .i64 0, .int .i64 0, .slice none 0 0]) ?_ 2 _ rfl; refine blk_put (cs := #[.int .i64 0, .int .i64 0, .int .i64 0, .slice none 0 0]) ?_ 1 _ rfl; refine blk_put (cs := #[.int .i64 0, .int .i64 0, .int .i64 0, .slice none 0 0]) ?_ 0 _ rfl; (with_reducible repeat (first | refine blk_drewN ?_ _ | refine blk_drew ?_ | refine blk_alloc ?_ _)); exact BKz1.out) Try.underlying28 rfl (by kernel_rfl)) rfl ?_
  exact ⟨_, by rfl, by exact Kd.R_nil _ _ _ _ _, by repeat (with_reducible first | exact HB.out | refine below_set ?_ GEz0.out)⟩
 replace c4 := Bool.eq_false_iff.mpr c4
 subst c4
 have H1 : (some (0, 0, 0, ([] : List Int), false)) = some (r1, r2, r3, r4, r5) := by rw [if_neg (show ¬ (false = true) by decide)] at H; exact H
 clear H
 have H := H1
 clear H1
 simp only [Option.some.injEq, Prod.mk.injEq] at H
 obtain ⟨rfl, rfl, rfl, rfl, rfl⟩ := H
 go_enter Try.func75, Try.ntmps75
 go_wp2_with (first | ((with_reducible refine gate_dst (N := 2) rfl ?_); refine box_event (by rfl) (N := 2) (by rfl) (cs := #[.int .i64 a0_0, .int .i64 a0_1, .int .i64 a0_2, .slice A0_3 l0_3.length c0_3]) (t := 28) (by go_simp; done) ?_; intro gbz0 hg w36 hbox hb; replace HB := mk (below_step HB.out hb); have BKz0 := mk (hbox); clear hb hbox hg) | ((with_reducible refine gate_dst (N := 3) rfl ?_); refine box_event (by rfl) (N := 3) (by rfl) (cs := #[.int .i64 a1_0, .int .i64 a1_1, .int .i64 a1_2, .int .i64 a1_3]) (t := 41) (by go_simp; done) ?_; intro gbz2 hg w37 hbox hb; replace BKz0 := mk (blk_below BKz0.out hb); replace HB := mk (below_step HB.out hb); have BKz2 := mk (hbox); clear hb hbox hg) | ((with_reducible refine gate_dst (N := 4) rfl ?_); refine box_event (by rfl) (N := 4) (by rfl) (cs := #[.int .i64 0, .int .i64 0, .int .i64 0, .slice none 0 0]) (t := 28) (by go_simp; done) ?_; intro gbz1 hg w38 hbox hb; replace BKz0 := mk (blk_below BKz0.out hb); replace BKz2 := mk (blk_below BKz2.out hb); have BKz1 := mk (hbox); have GEz0 := mk ((by rw [hg]; exact (below_size HB.out) : w.heap.size ≤ gbz1)); replace HB := mk (below_step HB.out hb); clear hb hbox hg; have hcz41_0 : w38.cell? ⟨gbz0, 0, none⟩ = some (.int .i64 a0_0) := (blk_cell BKz0.out 0).trans rfl; have hcz41_1 : w38.cell? ⟨gbz0, 1, none⟩ = some (.int .i64 a0_1) := (blk_cell BKz0.out 1).trans rfl; have hcz41_2 : w38.cell? ⟨gbz0, 2, none⟩ = some (.int .i64 a0_2) := (blk_cell BKz0.out 2).trans rfl; have hcz41_3 : w38.cell? ⟨gbz0, 3, none⟩ = some (.slice A0_3 l0_3.length c0_3) := (blk_cell BKz0.out 3).trans rfl) | ((with_reducible refine gate_callee (f := 39) rfl ?_); refine goesL_ (some 7) rfl rfl Try.func39 (by kernel_rfl) rfl #[.agg #[.int .i64 a0_0, .int .i64 a0_1, .int .i64 a0_2, .slice A0_3 l0_3.length c0_3]] rfl (by (try simp only [List.map_toArray, List.map_cons, List.map_nil]); rfl) ?_; (with_reducible refine (spec_validImage.calls k a0_0 a0_1 a0_2 _ _ l0_3 false _ ?side1 ?side2 A3.out).mono ?_); (case side1 => repeat (exact (Kd.C_below HR0_3.out HB.out))); (case side2 => exact HC0_3.out); rintro e w42 ⟨rfl, hb⟩; refine ⟨_, rfl, ?_⟩; have n2_ := mk (blk_below BKz1.out hb); have n3_ := mk (below_step HB.out hb); clear BKz0; clear BKz2; clear BKz1; clear HB; have BKz1 := n2_; have HB := n3_; (try clear hb); have hcz44_0 : w42.cell? ⟨gbz1, 0, none⟩ = some (.int .i64 0) := (blk_cell BKz1.out 0).trans rfl; have hcz44_1 : w42.cell? ⟨gbz1, 1, none⟩ = some (.int .i64 0) := (blk_cell BKz1.out 1).trans rfl; have hcz44_2 : w42.cell? ⟨gbz1, 2, none⟩ = some (.int .i64 0) := (blk_cell BKz1.out 2).trans rfl; have hcz44_3 : w42.cell? ⟨gbz1, 3, none⟩ = some (.slice none 0 0) := (blk_cell BKz1.out 3).trans rfl; have hfz44_0 := blk_frozen BKz1.out 0; have hfz44_1 := blk_frozen BKz1.out 1; have hfz44_2 := blk_frozen BKz1.out 2; have hfz44_3 := blk_frozen BKz1.out 3))
 refine bodyPost_ret (results_ct rfl _ _ gbz1 28 #[.int .i64 0, .int .i64 0, .int .i64 0, .slice none 0 0] (0, 0) _ rfl (by refine blk_put (cs := #[.int .i64 0, .int .i64 0, .int .i64 0, .slice none 0 0]) ?_ 3 _ rfl; refine blk_put (cs := #[.int .i64 0, .int .i64 0, .int .i64 0, .slice none 0 0]) ?_ 2 _ rfl; refine blk_put (cs := #[.int .i64 0, .int .i64 0, .int .i64 0, .slice none 0 0]) ?_ 1 _ rfl; refine blk_put (cs := #[.int .i64 0, .int .i64 0, .int .i64 0, .slice none 0 0]) ?_ 0 _ rfl; (with_reducible repeat (first | refine blk_drewN ?_ _ | refine blk_drew ?_ | refine blk_alloc ?_ _)); exact BKz1.out) Try.underlying28 rfl (by kernel_rfl)) rfl ?_
 exact ⟨_, by rfl, by exact Kd.R_nil _ _ _ _ _, by repeat (with_reducible first | exact HB.out | refine below_set ?_ GEz0.out)⟩

end Go.Proofs.Ytgccpcnakkioiaa.Q

namespace Go.Proofs.Ytgccpcnakkioiaa.Q
open Go.RowKit Go.Proofs.YtgccpcnakkioiaaW.PrintWords Go.Proofs.YtgccpcnakkioiaaW.PrintLast Go.Proofs.YtgccpcnakkioiaaW.PrintMore
attribute [local go_sem] max2_int min2_int max_two min_two max_three min_three max_four min_four
set_option linter.unusedVariables false
set_option linter.unusedSimpArgs false
def spec_onImage.f (a0_0 : Int) (a0_1 : Int) (a0_2 : Int) (l0_3 : List Int) (a1 : Int) (a2 : Int) : Option (Bool) := (spec_inRange.f a1 0 (wrap64 (a0_0 - 1))).bind fun tz1 => (if tz1 = true then ((spec_inRange.f a2 0 (wrap64 (a0_1 - 1))).bind fun tz0 => (some tz0)) else (some false))
set_option maxHeartbeats 8000000 in
set_option maxRecDepth 100000 in
theorem spec_onImage.calls (a0_0 : Int) (a0_1 : Int) (a0_2 : Int) (A0_3 : Option Addr) (c0_3 : Nat) (l0_3 : List Int) (a1 : Int) (a2 : Int) (r : Bool) (w : World) (hr0_3 : Kd.C (Kd.int .i64) w A0_3 l0_3.length l0_3) (hc0_3 : l0_3.length ≤ c0_3) (h : spec_onImage.f a0_0 a0_1 a0_2 l0_3 a1 a2 = some r) :
  Calls Try.prog 98 #[.agg #[.int .i64 a0_0, .int .i64 a0_1, .int .i64 a0_2, .slice A0_3 l0_3.length c0_3], .int .i64 a1, .int .i64 a2] w fun e w' => e = .returned (.bool r) ∧ Below w.heap.size w w' := by
 have hu28 := Try.underlying28
 have HR0_3 := Aside0.mk hr0_3
 have HC0_3 := Aside0.mk hc0_3
 clear hr0_3 hc0_3
 have HB := Aside0.mk (Below.refl w.heap.size w)
 have H : ((spec_inRange.f a1 0 (wrap64 (a0_0 - 1))).bind fun tz1 => (if tz1 = true then ((spec_inRange.f a2 0 (wrap64 (a0_1 - 1))).bind fun tz0 => (some tz0)) else (some false))) = some r := h
 clear h
 replace H := Option.bind_eq_some_iff.mp H
 obtain ⟨tz1, A40, H⟩ := H
 replace H : (if tz1 = true then ((spec_inRange.f a2 0 (wrap64 (a0_1 - 1))).bind fun tz0 => (some tz0)) else (some false)) = some r := H
 have A4 := Aside0.mk A40
 clear A40
 by_cases c5 : tz1 = true
 ·subst c5
  have H1 : ((spec_inRange.f a2 0 (wrap64 (a0_1 - 1))).bind fun tz0 => (some tz0)) = some r := by rw [if_pos rfl] at H; exact H
  clear H
  have H := H1
  clear H1
  replace H := Option.bind_eq_some_iff.mp H
  obtain ⟨tz0, A60, H⟩ := H
  replace H : (some tz0) = some r := H
  have A6 := Aside0.mk A60
  clear A60
  obtain rfl := Option.some.inj H
  go_enter Try.func98, Try.ntmps98
  go_wp2_with (first | ((with_reducible refine gate_dst (N := 3) rfl ?_); refine box_event ?hg (N := 3) ?hd (cs := #[.int .i64 a0_0, .int .i64 a0_1, .int .i64 a0_2, .slice A0_3 l0_3.length c0_3]) (t := 28) ?hr ?_; (case hd => rfl); (case hg => rfl); (case hr => first | (go_simp; done) | (go_simp; rfl)); intro gbz0 hg w7 hbox hb; replace HB := Aside0.mk (below_step (by repeat (first | (with_reducible first | exact HB.out | apply below_alloc | apply pw_below_drewN | apply below_drew1) | exact HB.out)) hb); have BKz0 := Aside0.mk (hbox); clear hb hbox hg; have hcz8_0 : w7.cell? ⟨gbz0, 0, none⟩ = some (.int .i64 a0_0) := (blk_cell BKz0.out 0).trans rfl; have hcz8_1 : w7.cell? ⟨gbz0, 1, none⟩ = some (.int .i64 a0_1) := (blk_cell BKz0.out 1).trans rfl) | ((with_reducible refine gate_callee (f := 93) rfl ?_); refine goesL_ (some 11) rfl rfl Try.func93 (by kernel_rfl) rfl #[.int .i64 a1, .int .i64 0, .int .i64 (wrap64 (a0_0 - 1))] rfl (by (try simp only [List.map_toArray, List.map_cons, List.map_nil]); first | done | rfl | (simp only [List.length_drop, List.length_take]; rfl)) ?_; (with_reducible refine (spec_inRange.calls a1 0 (wrap64 (a0_0 - 1)) true _ A4.out).mono ?_); rintro e w' ⟨rfl, ⟨nd, rfl⟩⟩; refine ⟨_, rfl, ?_⟩) | (go_at_call 93; (with_reducible refine (spec_inRange.calls a2 0 (wrap64 (a0_1 - 1)) tz0 _ A6.out).mono ?_); rintro e w' ⟨rfl, ⟨nd, rfl⟩⟩))
  go_ret
  exact ⟨by first | rfl | (simp [errW_none, errW_some] <;> rfl) | (simp [*, errW_none, errW_some] <;> rfl), by repeat (first | (with_reducible first | exact HB.out | apply below_alloc | apply pw_below_drewN | apply below_drew1 | refine below_set ?_ GEz0.out) | exact HB.out)⟩
 replace c5 := Bool.eq_false_iff.mpr c5
 subst c5
 have H1 : (some false) = some r := by rw [if_neg (show ¬ (false = true) by decide)] at H; exact H
 clear H
 have H := H1
 clear H1
 obtain rfl := Option.some.inj H
 go_enter Try.func98, Try.ntmps98
 go_wp2_with (first | ((with_reducible refine gate_dst (N := 3) rfl ?_); refine box_event ?hg (N := 3) ?hd (cs := #[.int .i64 a0_0, .int .i64 a0_1, .int .i64 a0_2, .slice A0_3 l0_3.length c0_3]) (t := 28) ?hr ?_; (case hd => rfl); (case hg => rfl); (case hr => first | (go_simp; done) | (go_simp; rfl)); intro gbz0 hg w9 hbox hb; replace HB := Aside0.mk (below_step (by repeat (first | (with_reducible first | exact HB.out | apply below_alloc | apply pw_below_drewN | apply below_drew1) | exact HB.out)) hb); have BKz0 := Aside0.mk (hbox); clear hb hbox hg; have hcz10_0 : w9.cell? ⟨gbz0, 0, none⟩ = some (.int .i64 a0_0) := (blk_cell BKz0.out 0).trans rfl) | ((with_reducible refine gate_callee (f := 93) rfl ?_); refine goesL_ (some 11) rfl rfl Try.func93 (by kernel_rfl) rfl #[.int .i64 a1, .int .i64 0, .int .i64 (wrap64 (a0_0 - 1))] rfl (by (try simp only [List.map_toArray, List.map_cons, List.map_nil]); first | done | rfl | (simp only [List.length_drop, List.length_take]; rfl)) ?_; (with_reducible refine (spec_inRange.calls a1 0 (wrap64 (a0_0 - 1)) false _ A4.out).mono ?_); rintro e w' ⟨rfl, ⟨nd, rfl⟩⟩; refine ⟨_, rfl, ?_⟩))
 go_ret
 exact ⟨by first | rfl | (simp [errW_none, errW_some] <;> rfl) | (simp [*, errW_none, errW_some] <;> rfl), by repeat (first | (with_reducible first | exact HB.out | apply below_alloc | apply pw_below_drewN | apply below_drew1 | refine below_set ?_ GEz0.out) | exact HB.out)⟩

end Go.Proofs.Ytgccpcnakkioiaa.Q
