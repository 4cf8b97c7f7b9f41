/- A part of the proof that the statement FnChangedBoxesSaid holds, under no condition of its own: Boxes have all changes: the law FnChangedBoxes over lists of numbers alone. -/
import Derived.Test.YtbgohbinonkhfaaCFnChangedBoxes1
import Derived.Test.YtbgohbinonkhfaaCFnChangedBoxes3
/- impl.ChangedBoxes: the bounds of the parts of the region in which two images differ. -/
namespace Go.Proofs.Ytbgohbinonkhfaa.Q
open Go.RowKit Go.Proofs.YtbgohbinonkhfaaW.PrintWords Go.Proofs.YtbgohbinonkhfaaW.PrintLast Go.Proofs.YtbgohbinonkhfaaW.PrintMore
attribute [local go_sem] max2_int min2_int max_two min_two max_three min_three max_four min_four
set_option linter.unusedVariables false
set_option linter.unusedSimpArgs false
open Go.Proofs.Ytbgohbinonkhfaa.Pure

def boxB (l : List S47) : S60 := ⟨(boundsR l).1, (boundsR l).2.1, (boundsR l).2.2.1, (boundsR l).2.2.2⟩
noncomputable def impl_ChangedBoxes.f (a b p : Int) (d1 : List Int) (a' b' p' : Int) (d2 : List Int) : Option (List S60) := some (if sameV a b p d1 a' b' p' d2 = true then (partsS 256 0 (gso (chg a b p d1 d2) 256)).map boxB else [])

set_option maxHeartbeats 2000000 in
set_option maxRecDepth 100000 in
theorem impl_ChangedBoxes.calls (a b p : Int) (A1 : Option Addr) (c1 : Nat) (d1 : List Int) (a' b' p' : Int) (A2 : Option Addr) (c2 : Nat) (d2 : List Int) (r : List S60) (w : World) (hr0_3 : Kd.C (Kd.int .i64) w A1 d1.length d1) (hc0_3 : d1.length ≤ c1) (hr1_3 : Kd.C (Kd.int .i64) w A2 d2.length d2) (hc1_3 : d2.length ≤ c2) (h : impl_ChangedBoxes.f a b p d1 a' b' p' d2 = some r) :
    Calls Try.prog 33 #[.agg #[.int .i64 a, .int .i64 b, .int .i64 p, .slice A1 d1.length c1], .agg #[.int .i64 a', .int .i64 b', .int .i64 p', .slice A2 d2.length c2]] w fun e w' => ∃ v0_ : Value, e = .returned v0_ ∧ Kd.R k60 60 w' w.heap.size (fun _ => True) v0_ r ∧ Below w.heap.size w w' := by
  obtain rfl := Option.some.inj h
  clear h
  have HC1 := Aside0.mk hc0_3
  have HC2 := Aside0.mk hc1_3
  have HR1 := Aside0.mk hr0_3
  have HR2 := Aside0.mk hr1_3
  have HB0 := Aside0.mk (Below.refl w.heap.size w)
  have E1 := Aside0.mk (impl_isImage_eq a b p d1)
  have E2 := Aside0.mk (impl_isImage_eq a' b' p' d2)
  have E3 := Aside0.mk (impl_alike_eq a b p d1 a' b' p' d2)
  clear hr0_3 hc0_3 hr1_3 hc1_3
  have hu := Try.underlying28
  cases hv1 : validI a b p d1 with
  | false =>
    rw [show sameV a b p d1 a' b' p' d2 = false from by unfold sameV; rw [hv1, Bool.false_and], if_neg (by simp)]
    rw [hv1] at E1
    clear hv1
    go_enter Try.func33, Try.ntmps33
    go_wp2_with (first | ((with_reducible refine gate_dst (N := 2) rfl ?_); refine box_event ?hg (N := 2) ?hd (cs := #[.int .i64 a, .int .i64 b, .int .i64 p, .slice A1 d1.length c1]) (t := 28) ?hr ?_; (case hd => rfl); (case hg => rfl); (case hr => (go_simp; done)); intro g1 hg_ w1 hbox hb; have HB1 := Aside0.mk (below_then HB0.out HB0.out.size hb); have K1 := Aside0.mk hbox; have Gg1 := Aside0.mk (show w.heap.size ≤ g1 from by rw [hg_]; exact HB0.out.size); clear hbox hb hg_) | ((with_reducible refine gate_dst (N := 3) rfl ?_); refine box_event ?hg (N := 3) ?hd (cs := #[.int .i64 a', .int .i64 b', .int .i64 p', .slice A2 d2.length c2]) (t := 28) ?hr ?_; (case hd => rfl); (case hg => rfl); (case hr => (go_simp; done)); intro g2 hg_ w2 hbox hb; have HB2 := Aside0.mk (below_then HB1.out HB1.out.size hb); have K2 := Aside0.mk hbox; have K1b := Aside0.mk (blk_below K1.out hb); have Gg2 := Aside0.mk (show w.heap.size ≤ g2 from by rw [hg_]; exact HB1.out.size); have M1 := K1b; have M2 := K2; have f0 : w2.cell? ⟨g1, 0, none⟩ = some (.int .i64 a) := (blk_cell K1b.out 0).trans rfl; have f1 : w2.cell? ⟨g1, 1, none⟩ = some (.int .i64 b) := (blk_cell K1b.out 1).trans rfl; have f2 : w2.cell? ⟨g1, 2, none⟩ = some (.int .i64 p) := (blk_cell K1b.out 2).trans rfl; have f3 : w2.cell? ⟨g1, 3, none⟩ = some (.slice A1 d1.length c1) := (blk_cell K1b.out 3).trans rfl; have e0 : w2.cell? ⟨g2, 0, none⟩ = some (.int .i64 a') := (blk_cell K2.out 0).trans rfl; have e1 : w2.cell? ⟨g2, 1, none⟩ = some (.int .i64 b') := (blk_cell K2.out 1).trans rfl; have e2 : w2.cell? ⟨g2, 2, none⟩ = some (.int .i64 p') := (blk_cell K2.out 2).trans rfl; have e3 : w2.cell? ⟨g2, 3, none⟩ = some (.slice A2 d2.length c2) := (blk_cell K2.out 3).trans rfl; clear hbox hb hg_) | (go_at_call 48; (with_reducible refine (impl_isImage.calls a b p A1 c1 d1 _ w2 (Kd.C_below HR1.out HB2.out) HC1.out E1.out).mono ?_); rintro e w3 ⟨rfl, hb_⟩; have HB3 := Aside0.mk (below_then HB2.out HB2.out.size hb_); have N1 := Aside0.mk (blk_below M1.out hb_); have N2 := Aside0.mk (blk_below M2.out hb_); have fw30 : w3.cell? ⟨g1, 0, none⟩ = some (.int .i64 a) := (blk_cell N1.out 0).trans rfl; have fw31 : w3.cell? ⟨g1, 1, none⟩ = some (.int .i64 b) := (blk_cell N1.out 1).trans rfl; have fw32 : w3.cell? ⟨g1, 2, none⟩ = some (.int .i64 p) := (blk_cell N1.out 2).trans rfl; have fw33 : w3.cell? ⟨g1, 3, none⟩ = some (.slice A1 d1.length c1) := (blk_cell N1.out 3).trans rfl; have ew30 : w3.cell? ⟨g2, 0, none⟩ = some (.int .i64 a') := (blk_cell N2.out 0).trans rfl; have ew31 : w3.cell? ⟨g2, 1, none⟩ = some (.int .i64 b') := (blk_cell N2.out 1).trans rfl; have ew32 : w3.cell? ⟨g2, 2, none⟩ = some (.int .i64 p') := (blk_cell N2.out 2).trans rfl; have ew33 : w3.cell? ⟨g2, 3, none⟩ = some (.slice A2 d2.length c2) := (blk_cell N2.out 3).trans rfl; clear hb_))
    go_ret
    exact ⟨_, rfl, Kd.R_nil _ _ _ _ _, HB3.out⟩
  | true =>
    rw [hv1] at E1
    cases hv2 : validI a' b' p' d2 with
    | false =>
      rw [show sameV a b p d1 a' b' p' d2 = false from by unfold sameV; rw [hv2, Bool.false_and, Bool.and_false], if_neg (by simp)]
      rw [hv2] at E2
      clear hv1 hv2
      go_enter Try.func33, Try.ntmps33
      go_wp2_with (first | ((with_reducible refine gate_dst (N := 2) rfl ?_); refine box_event ?hg (N := 2) ?hd (cs := #[.int .i64 a, .int .i64 b, .int .i64 p, .slice A1 d1.length c1]) (t := 28) ?hr ?_; (case hd => rfl); (case hg => rfl); (case hr => (go_simp; done)); intro g1 hg_ w1 hbox hb; have HB1 := Aside0.mk (below_then HB0.out HB0.out.size hb); have K1 := Aside0.mk hbox; have Gg1 := Aside0.mk (show w.heap.size ≤ g1 from by rw [hg_]; exact HB0.out.size); clear hbox hb hg_) | ((with_reducible refine gate_dst (N := 3) rfl ?_); refine box_event ?hg (N := 3) ?hd (cs := #[.int .i64 a', .int .i64 b', .int .i64 p', .slice A2 d2.length c2]) (t := 28) ?hr ?_; (case hd => rfl); (case hg => rfl); (case hr => (go_simp; done)); intro g2 hg_ w2 hbox hb; have HB2 := Aside0.mk (below_then HB1.out HB1.out.size hb); have K2 := Aside0.mk hbox; have K1b := Aside0.mk (blk_below K1.out hb); have Gg2 := Aside0.mk (show w.heap.size ≤ g2 from by rw [hg_]; exact HB1.out.size); have M1 := K1b; have M2 := K2; have f0 : w2.cell? ⟨g1, 0, none⟩ = some (.int .i64 a) := (blk_cell K1b.out 0).trans rfl; have f1 : w2.cell? ⟨g1, 1, none⟩ = some (.int .i64 b) := (blk_cell K1b.out 1).trans rfl; have f2 : w2.cell? ⟨g1, 2, none⟩ = some (.int .i64 p) := (blk_cell K1b.out 2).trans rfl; have f3 : w2.cell? ⟨g1, 3, none⟩ = some (.slice A1 d1.length c1) := (blk_cell K1b.out 3).trans rfl; have e0 : w2.cell? ⟨g2, 0, none⟩ = some (.int .i64 a') := (blk_cell K2.out 0).trans rfl; have e1 : w2.cell? ⟨g2, 1, none⟩ = some (.int .i64 b') := (blk_cell K2.out 1).trans rfl; have e2 : w2.cell? ⟨g2, 2, none⟩ = some (.int .i64 p') := (blk_cell K2.out 2).trans rfl; have e3 : w2.cell? ⟨g2, 3, none⟩ = some (.slice A2 d2.length c2) := (blk_cell K2.out 3).trans rfl; clear hbox hb hg_) | (go_at_call 48; (with_reducible refine (impl_isImage.calls a b p A1 c1 d1 _ w2 (Kd.C_below HR1.out HB2.out) HC1.out E1.out).mono ?_); rintro e w3 ⟨rfl, hb_⟩; have HB3 := Aside0.mk (below_then HB2.out HB2.out.size hb_); have N1 := Aside0.mk (blk_below M1.out hb_); have N2 := Aside0.mk (blk_below M2.out hb_); have fw30 : w3.cell? ⟨g1, 0, none⟩ = some (.int .i64 a) := (blk_cell N1.out 0).trans rfl; have fw31 : w3.cell? ⟨g1, 1, none⟩ = some (.int .i64 b) := (blk_cell N1.out 1).trans rfl; have fw32 : w3.cell? ⟨g1, 2, none⟩ = some (.int .i64 p) := (blk_cell N1.out 2).trans rfl; have fw33 : w3.cell? ⟨g1, 3, none⟩ = some (.slice A1 d1.length c1) := (blk_cell N1.out 3).trans rfl; have ew30 : w3.cell? ⟨g2, 0, none⟩ = some (.int .i64 a') := (blk_cell N2.out 0).trans rfl; have ew31 : w3.cell? ⟨g2, 1, none⟩ = some (.int .i64 b') := (blk_cell N2.out 1).trans rfl; have ew32 : w3.cell? ⟨g2, 2, none⟩ = some (.int .i64 p') := (blk_cell N2.out 2).trans rfl; have ew33 : w3.cell? ⟨g2, 3, none⟩ = some (.slice A2 d2.length c2) := (blk_cell N2.out 3).trans rfl; clear hb_) | (go_at_call 48; (with_reducible refine (impl_isImage.calls a' b' p' A2 c2 d2 _ w3 (Kd.C_below HR2.out HB3.out) HC2.out E2.out).mono ?_); rintro e w4 ⟨rfl, hb_⟩; have HB4 := Aside0.mk (below_then HB3.out HB3.out.size hb_); have O1 := Aside0.mk (blk_below N1.out hb_); have O2 := Aside0.mk (blk_below N2.out hb_); have fw40 : w4.cell? ⟨g1, 0, none⟩ = some (.int .i64 a) := (blk_cell O1.out 0).trans rfl; have fw41 : w4.cell? ⟨g1, 1, none⟩ = some (.int .i64 b) := (blk_cell O1.out 1).trans rfl; have fw42 : w4.cell? ⟨g1, 2, none⟩ = some (.int .i64 p) := (blk_cell O1.out 2).trans rfl; have fw43 : w4.cell? ⟨g1, 3, none⟩ = some (.slice A1 d1.length c1) := (blk_cell O1.out 3).trans rfl; have ew40 : w4.cell? ⟨g2, 0, none⟩ = some (.int .i64 a') := (blk_cell O2.out 0).trans rfl; have ew41 : w4.cell? ⟨g2, 1, none⟩ = some (.int .i64 b') := (blk_cell O2.out 1).trans rfl; have ew42 : w4.cell? ⟨g2, 2, none⟩ = some (.int .i64 p') := (blk_cell O2.out 2).trans rfl; have ew43 : w4.cell? ⟨g2, 3, none⟩ = some (.slice A2 d2.length c2) := (blk_cell O2.out 3).trans rfl; clear hb_))
      go_ret
      exact ⟨_, rfl, Kd.R_nil _ _ _ _ _, HB4.out⟩
    | true =>
      rw [hv2] at E2
      have es : sameV a b p d1 a' b' p' d2 = decide (a = a' ∧ b = b' ∧ p = p') := by unfold sameV; rw [hv1, hv2, Bool.true_and, Bool.true_and]
      by_cases hs : a = a' ∧ b = b' ∧ p = p'
      · rw [es, decide_eq_true hs, if_pos rfl]
        rw [decide_eq_true hs] at E3
        obtain ⟨rfl, rfl, rfl⟩ := hs
        have HV1 := Aside0.mk hv1
        have HV2 := Aside0.mk hv2
        clear hv1 hv2 es
        have HOK := Aside0.mk (valid_ranges (runs_valid (gso (chg a b p d1 d2) 256)))
        have HPR := Aside0.mk (parts_runs (gso (chg a b p d1 d2) 256))
        have HLL := Aside0.mk (partsS_len 256 0 (gso (chg a b p d1 d2) 256))
        have HBN := Aside0.mk (fun (r : List S47) (hr : r ∈ partsS 256 0 (gso (chg a b p d1 d2) 256)) => show impl_bounds.f (272 + 1) r = some ((boundsR r).1, (boundsR r).2.1, (boundsR r).2.2.1, (boundsR r).2.2.2) from by
          obtain ⟨f, hf⟩ := partsS_each 256 0 _ r hr
          have hl : r.length ≤ 272 := by rw [hf]; exact runsL_len f
          exact impl_bounds_eq r (partsS_ne 256 0 _ (by omega) r hr) (by omega) (by rw [hf]; exact valid_ok (runs_valid f)) _ (by omega))
        generalize partsS 256 0 (gso (chg a b p d1 d2) 256) = L at HPR HLL HBN ⊢
        have hL := HLL.out
        go_enter Try.func33, Try.ntmps33
        go_wp2_with (first | ((with_reducible refine gate_dst (N := 2) rfl ?_); refine box_event ?hg (N := 2) ?hd (cs := #[.int .i64 a, .int .i64 b, .int .i64 p, .slice A1 d1.length c1]) (t := 28) ?hr ?_; (case hd => rfl); (case hg => rfl); (case hr => (go_simp; done)); intro g1 hg_ w1 hbox hb; have HB1 := Aside0.mk (below_then HB0.out HB0.out.size hb); have K1 := Aside0.mk hbox; have Gg1 := Aside0.mk (show w.heap.size ≤ g1 from by rw [hg_]; exact HB0.out.size); clear hbox hb hg_) | ((with_reducible refine gate_dst (N := 3) rfl ?_); refine box_event ?hg (N := 3) ?hd (cs := #[.int .i64 a, .int .i64 b, .int .i64 p, .slice A2 d2.length c2]) (t := 28) ?hr ?_; (case hd => rfl); (case hg => rfl); (case hr => (go_simp; done)); intro g2 hg_ w2 hbox hb; have HB2 := Aside0.mk (below_then HB1.out HB1.out.size hb); have K2 := Aside0.mk hbox; have K1b := Aside0.mk (blk_below K1.out hb); have Gg2 := Aside0.mk (show w.heap.size ≤ g2 from by rw [hg_]; exact HB1.out.size); have M1 := K1b; have M2 := K2; have f0 : w2.cell? ⟨g1, 0, none⟩ = some (.int .i64 a) := (blk_cell K1b.out 0).trans rfl; have f1 : w2.cell? ⟨g1, 1, none⟩ = some (.int .i64 b) := (blk_cell K1b.out 1).trans rfl; have f2 : w2.cell? ⟨g1, 2, none⟩ = some (.int .i64 p) := (blk_cell K1b.out 2).trans rfl; have f3 : w2.cell? ⟨g1, 3, none⟩ = some (.slice A1 d1.length c1) := (blk_cell K1b.out 3).trans rfl; have e0 : w2.cell? ⟨g2, 0, none⟩ = some (.int .i64 a) := (blk_cell K2.out 0).trans rfl; have e1 : w2.cell? ⟨g2, 1, none⟩ = some (.int .i64 b) := (blk_cell K2.out 1).trans rfl; have e2 : w2.cell? ⟨g2, 2, none⟩ = some (.int .i64 p) := (blk_cell K2.out 2).trans rfl; have e3 : w2.cell? ⟨g2, 3, none⟩ = some (.slice A2 d2.length c2) := (blk_cell K2.out 3).trans rfl; clear hbox hb hg_) | (go_at_call 48; (with_reducible refine (impl_isImage.calls a b p A1 c1 d1 _ w2 (Kd.C_below HR1.out HB2.out) HC1.out E1.out).mono ?_); rintro e w3 ⟨rfl, hb_⟩; have HB3 := Aside0.mk (below_then HB2.out HB2.out.size hb_); have N1 := Aside0.mk (blk_below M1.out hb_); have N2 := Aside0.mk (blk_below M2.out hb_); have fw30 : w3.cell? ⟨g1, 0, none⟩ = some (.int .i64 a) := (blk_cell N1.out 0).trans rfl; have fw31 : w3.cell? ⟨g1, 1, none⟩ = some (.int .i64 b) := (blk_cell N1.out 1).trans rfl; have fw32 : w3.cell? ⟨g1, 2, none⟩ = some (.int .i64 p) := (blk_cell N1.out 2).trans rfl; have fw33 : w3.cell? ⟨g1, 3, none⟩ = some (.slice A1 d1.length c1) := (blk_cell N1.out 3).trans rfl; have ew30 : w3.cell? ⟨g2, 0, none⟩ = some (.int .i64 a) := (blk_cell N2.out 0).trans rfl; have ew31 : w3.cell? ⟨g2, 1, none⟩ = some (.int .i64 b) := (blk_cell N2.out 1).trans rfl; have ew32 : w3.cell? ⟨g2, 2, none⟩ = some (.int .i64 p) := (blk_cell N2.out 2).trans rfl; have ew33 : w3.cell? ⟨g2, 3, none⟩ = some (.slice A2 d2.length c2) := (blk_cell N2.out 3).trans rfl; clear hb_) | (go_at_call 48; (with_reducible refine (impl_isImage.calls a b p A2 c2 d2 _ w3 (Kd.C_below HR2.out HB3.out) HC2.out E2.out).mono ?_); rintro e w4 ⟨rfl, hb_⟩; have HB4 := Aside0.mk (below_then HB3.out HB3.out.size hb_); have O1 := Aside0.mk (blk_below N1.out hb_); have O2 := Aside0.mk (blk_below N2.out hb_); have fw40 : w4.cell? ⟨g1, 0, none⟩ = some (.int .i64 a) := (blk_cell O1.out 0).trans rfl; have fw41 : w4.cell? ⟨g1, 1, none⟩ = some (.int .i64 b) := (blk_cell O1.out 1).trans rfl; have fw42 : w4.cell? ⟨g1, 2, none⟩ = some (.int .i64 p) := (blk_cell O1.out 2).trans rfl; have fw43 : w4.cell? ⟨g1, 3, none⟩ = some (.slice A1 d1.length c1) := (blk_cell O1.out 3).trans rfl; have ew40 : w4.cell? ⟨g2, 0, none⟩ = some (.int .i64 a) := (blk_cell O2.out 0).trans rfl; have ew41 : w4.cell? ⟨g2, 1, none⟩ = some (.int .i64 b) := (blk_cell O2.out 1).trans rfl; have ew42 : w4.cell? ⟨g2, 2, none⟩ = some (.int .i64 p) := (blk_cell O2.out 2).trans rfl; have ew43 : w4.cell? ⟨g2, 3, none⟩ = some (.slice A2 d2.length c2) := (blk_cell O2.out 3).trans rfl; clear hb_) | (go_at_call 49; (with_reducible refine (impl_alikeImages.calls a b p A1 c1 d1 a b p A2 c2 d2 _ w4 (Kd.C_below HR1.out HB4.out) HC1.out (Kd.C_below HR2.out HB4.out) HC2.out E3.out).mono ?_); rintro e w5 ⟨rfl, hb_⟩; have HB5 := Aside0.mk (below_then HB4.out HB4.out.size hb_); have P1 := Aside0.mk (blk_below O1.out hb_); have P2 := Aside0.mk (blk_below O2.out hb_); have fw50 : w5.cell? ⟨g1, 0, none⟩ = some (.int .i64 a) := (blk_cell P1.out 0).trans rfl; have fw51 : w5.cell? ⟨g1, 1, none⟩ = some (.int .i64 b) := (blk_cell P1.out 1).trans rfl; have fw52 : w5.cell? ⟨g1, 2, none⟩ = some (.int .i64 p) := (blk_cell P1.out 2).trans rfl; have fw53 : w5.cell? ⟨g1, 3, none⟩ = some (.slice A1 d1.length c1) := (blk_cell P1.out 3).trans rfl; have ew50 : w5.cell? ⟨g2, 0, none⟩ = some (.int .i64 a) := (blk_cell P2.out 0).trans rfl; have ew51 : w5.cell? ⟨g2, 1, none⟩ = some (.int .i64 b) := (blk_cell P2.out 1).trans rfl; have ew52 : w5.cell? ⟨g2, 2, none⟩ = some (.int .i64 p) := (blk_cell P2.out 2).trans rfl; have ew53 : w5.cell? ⟨g2, 3, none⟩ = some (.slice A2 d2.length c2) := (blk_cell P2.out 3).trans rfl; clear hb_) | ((with_reducible refine gate_dst (N := 22) rfl ?_); refine Kd.R_lit k60 w.heap.size 60 ?hg (N := 22) ?hd (xs := ([] : List S60)) (inner := []) (ok := fun _ => True) (okp := fun _ => True) ?hr ?hp (fun _ hk => hk) trivial HB5.out HB5.out.size (by simp) ?_; (case hd => rfl); (case hg => rfl); (case hr => (go_simp; done)); (case hp => exact (Reps.none _ _)); intro v22 w6 ho hb hg_ hnew_; have HV6 := Aside0.mk ho; have HB6 := Aside0.mk hb; have Q1 := Aside0.mk (blk_grown P1.out hg_ (by simp)); have Q2 := Aside0.mk (blk_grown P2.out hg_ (by simp)); have fq0 : w6.cell? ⟨g1, 0, none⟩ = some (.int .i64 a) := (blk_cell Q1.out 0).trans rfl; have fq1 : w6.cell? ⟨g1, 1, none⟩ = some (.int .i64 b) := (blk_cell Q1.out 1).trans rfl; have fq2 : w6.cell? ⟨g1, 2, none⟩ = some (.int .i64 p) := (blk_cell Q1.out 2).trans rfl; have fq3 : w6.cell? ⟨g1, 3, none⟩ = some (.slice A1 d1.length c1) := (blk_cell Q1.out 3).trans rfl; have eq0 : w6.cell? ⟨g2, 0, none⟩ = some (.int .i64 a) := (blk_cell Q2.out 0).trans rfl; have eq1 : w6.cell? ⟨g2, 1, none⟩ = some (.int .i64 b) := (blk_cell Q2.out 1).trans rfl; have eq2 : w6.cell? ⟨g2, 2, none⟩ = some (.int .i64 p) := (blk_cell Q2.out 2).trans rfl; have eq3 : w6.cell? ⟨g2, 3, none⟩ = some (.slice A2 d2.length c2) := (blk_cell Q2.out 3).trans rfl; clear ho hb hg_ hnew_) | (go_at_call 50; (with_reducible refine (changed_calls a b p A1 A2 c1 c2 d1 d2 HV1.out HV2.out HC1.out HC2.out w6 (Kd.C_below HR1.out HB6.out) (Kd.C_below HR2.out HB6.out)).mono ?_); rintro e w7 ⟨v7, rfl, hr7, hb7⟩; have HB7 := Aside0.mk (below_then HB6.out HB6.out.size hb7); have HV7 := Aside0.mk (Kd.R_below HV6.out hb7); obtain ⟨A7, c7, rfl, hl7, hC7⟩ := Kd.R_reads hr7; have HR7 := Aside0.mk hC7; clear hb7 hr7 hC7 hl7) | (go_at_call 75; (with_reducible refine (partsOf_calls _ _ _ w7 HR7.out HOK.out).mono ?_); rintro e w8 ⟨v8, rfl, hr8, hb8⟩; rw [HPR.out] at hr8; have HB8 := Aside0.mk (below_then HB7.out HB7.out.size hb8); have HV8 := Aside0.mk (Kd.R_below HV7.out hb8); have HS8 := Aside0.mk (Kd.S_lower hr8 HB7.out.size); obtain ⟨A8, c8, rfl⟩ := Kd.S_slice hr8; clear hb8 hr8))
        go_loopw [5, 28] (fun v5 v28 W => ∃ i : Nat, v28 = .int .i64 i ∧ i ≤ L.length ∧ Aside0 (Kd.R k60 60 W w.heap.size (fun _ => True) v5 ((L.take i).map boxB) ∧ Kd.S (Kd.slice 47 k47) 26 W w.heap.size (fun _ => True) (.slice A8 L.length c8) L ∧ Below w.heap.size w W)) (fun _ v28 _ => L.length - (intOf v28).toNat)
        case atStart => exact ⟨0, rfl, by omega, ⟨HV8.out, HS8.out, HB8.out⟩⟩
        case round =>
          obtain ⟨i, rfl, hi, HV⟩ := hrel
          obtain ⟨wo, rfl⟩ : ∃ wo : World, wo = wr := ⟨_, rfl⟩
          by_cases hlt : i < L.length
          · have q1 : decide ((i : Int) < (L.length : Int)) = true := decide_eq_true (by omega)
            obtain ⟨g8, cap8, h8, _⟩ := Kd.S_form HV.out.2.1 (by omega)
            injection h8 with h8a h8b h8c
            subst h8a h8c
            clear h8b
            obtain ⟨cs, _, hM, hcell⟩ := Kd.S_get HV.out.2.1 ([] : List S47) (i : Int) (by omega) (by omega)
            rw [Int.toNat_natCast] at hM
            have hmem : L.getD i [] ∈ L := by rw [List.getD_eq_getElem?_getD, List.getElem?_eq_getElem hlt]; exact List.getElem_mem hlt
            have htk : (L.take (i + 1)).map boxB = (L.take i).map boxB ++ [boxB (L.getD i [])] := by
              rw [List.take_succ_eq_append_getElem hlt, List.map_append, List.getD_eq_getElem?_getD, List.getElem?_eq_getElem hlt]; rfl
            have HBD := Aside0.mk (HBN.out _ hmem)
            have HTK := Aside0.mk htk
            clear hmem htk
            generalize L.getD i [] = xi at hM HBD HTK
            obtain ⟨vi, rfl, hRi⟩ := hM
            obtain ⟨Ai, ci, rfl, hli, hCi⟩ := Kd.R_reads hRi
            have hce : wo.cell? ((⟨g8, 0, none⟩ : Addr).add (i * 1 + 0)) = some (.slice Ai xi.length ci) := hcell 0 _ rfl
            rw [Nat.mul_one, Nat.add_zero] at hce
            have hce' : wo.cell? ⟨g8, i, none⟩ = some (.slice Ai xi.length ci) := by
              have e : (⟨g8, 0, none⟩ : Addr).add i = ⟨g8, i, none⟩ := by unfold Addr.add; split <;> simp_all
              rw [e] at hce
              exact hce
            have HLI := Aside0.mk hli
            have HCI := Aside0.mk hCi
            clear hcell hce hRi hli hCi hi
            go_wp2_with (first | (go_at_call 78; (with_reducible refine (impl_bounds.calls _ Ai ci xi _ _ _ _ wo HCI.out HLI.out HBD.out).mono ?_); rintro e w9 ⟨rfl, hb9⟩; have HB9 := Aside0.mk (below_then HV.out.2.2 HV.out.2.2.size hb9); have HO9 := Aside0.mk (Kd.R_below HV.out.1 hb9); have HS9 := Aside0.mk (Kd.S_below HV.out.2.1 hb9); clear hb9) | ((with_reducible refine gate_builtin (b := .append) (xs := #[.tmp 32, .tmp 35]) rfl ?_); at_builtin; refine Kd.R_append k60 (w0 := w) w.heap.size rfl (.tmp 32) (.tmp 35) 53 60 (.agg #[(.int .i64 0), (.int .i64 0), (.int .i64 0), (.int .i64 0)]) 32 rfl Try.underlying53 info60 rfl (by decide) (by omega) u5 ((L.take i).map boxB) (boxB xi) [.int .i64 (boundsR xi).1, .int .i64 (boundsR xi).2.1, .int .i64 (boundsR xi).2.2.1, .int .i64 (boundsR xi).2.2.2] (fun _ => True) (fun _ => False) rfl ?aX ?aP (fun _ hk => hk.elim) (fun _ _ => trivial) HO9.out HB9.out HB9.out.size ?aL ?_; (case aX => rfl); (case aP => exact k60_mkM _ _ _ (boxB xi)); (case aL => (have hl_ := HLL.out; rw [List.length_map, List.length_take]; omega)); intro v10 w10 ho hb hg hat; have HO10 := Aside0.mk ho; have HB10 := Aside0.mk hb; have HS10 := Aside0.mk (Kd.S_over' HS9.out (Kd.R_typed HO9.out) (by decide) hg); clear ho hb hg hat))
            go_roundw
            case rel => exact ⟨i + 1, by go_num, by omega, ⟨by rw [HTK.out]; exact HO10.out, HS10.out, HB10.out⟩⟩
            case measure => simp [intOf]; omega
          · have q1 : decide ((i : Int) < (L.length : Int)) = false := decide_eq_false (by omega)
            go_wp2
            go_ret
            exact ⟨_, rfl, by have h := HV.out.1; rw [List.take_of_length_le (by omega)] at h; exact h, HV.out.2.2⟩
      · rw [es, decide_eq_false hs, if_neg (by simp)]
        rw [decide_eq_false hs] at E3
        clear hv1 hv2 es hs
        go_enter Try.func33, Try.ntmps33
        go_wp2_with (first | ((with_reducible refine gate_dst (N := 2) rfl ?_); refine box_event ?hg (N := 2) ?hd (cs := #[.int .i64 a, .int .i64 b, .int .i64 p, .slice A1 d1.length c1]) (t := 28) ?hr ?_; (case hd => rfl); (case hg => rfl); (case hr => (go_simp; done)); intro g1 hg_ w1 hbox hb; have HB1 := Aside0.mk (below_then HB0.out HB0.out.size hb); have K1 := Aside0.mk hbox; have Gg1 := Aside0.mk (show w.heap.size ≤ g1 from by rw [hg_]; exact HB0.out.size); clear hbox hb hg_) | ((with_reducible refine gate_dst (N := 3) rfl ?_); refine box_event ?hg (N := 3) ?hd (cs := #[.int .i64 a', .int .i64 b', .int .i64 p', .slice A2 d2.length c2]) (t := 28) ?hr ?_; (case hd => rfl); (case hg => rfl); (case hr => (go_simp; done)); intro g2 hg_ w2 hbox hb; have HB2 := Aside0.mk (below_then HB1.out HB1.out.size hb); have K2 := Aside0.mk hbox; have K1b := Aside0.mk (blk_below K1.out hb); have Gg2 := Aside0.mk (show w.heap.size ≤ g2 from by rw [hg_]; exact HB1.out.size); have M1 := K1b; have M2 := K2; have f0 : w2.cell? ⟨g1, 0, none⟩ = some (.int .i64 a) := (blk_cell K1b.out 0).trans rfl; have f1 : w2.cell? ⟨g1, 1, none⟩ = some (.int .i64 b) := (blk_cell K1b.out 1).trans rfl; have f2 : w2.cell? ⟨g1, 2, none⟩ = some (.int .i64 p) := (blk_cell K1b.out 2).trans rfl; have f3 : w2.cell? ⟨g1, 3, none⟩ = some (.slice A1 d1.length c1) := (blk_cell K1b.out 3).trans rfl; have e0 : w2.cell? ⟨g2, 0, none⟩ = some (.int .i64 a') := (blk_cell K2.out 0).trans rfl; have e1 : w2.cell? ⟨g2, 1, none⟩ = some (.int .i64 b') := (blk_cell K2.out 1).trans rfl; have e2 : w2.cell? ⟨g2, 2, none⟩ = some (.int .i64 p') := (blk_cell K2.out 2).trans rfl; have e3 : w2.cell? ⟨g2, 3, none⟩ = some (.slice A2 d2.length c2) := (blk_cell K2.out 3).trans rfl; clear hbox hb hg_) | (go_at_call 48; (with_reducible refine (impl_isImage.calls a b p A1 c1 d1 _ w2 (Kd.C_below HR1.out HB2.out) HC1.out E1.out).mono ?_); rintro e w3 ⟨rfl, hb_⟩; have HB3 := Aside0.mk (below_then HB2.out HB2.out.size hb_); have N1 := Aside0.mk (blk_below M1.out hb_); have N2 := Aside0.mk (blk_below M2.out hb_); have fw30 : w3.cell? ⟨g1, 0, none⟩ = some (.int .i64 a) := (blk_cell N1.out 0).trans rfl; have fw31 : w3.cell? ⟨g1, 1, none⟩ = some (.int .i64 b) := (blk_cell N1.out 1).trans rfl; have fw32 : w3.cell? ⟨g1, 2, none⟩ = some (.int .i64 p) := (blk_cell N1.out 2).trans rfl; have fw33 : w3.cell? ⟨g1, 3, none⟩ = some (.slice A1 d1.length c1) := (blk_cell N1.out 3).trans rfl; have ew30 : w3.cell? ⟨g2, 0, none⟩ = some (.int .i64 a') := (blk_cell N2.out 0).trans rfl; have ew31 : w3.cell? ⟨g2, 1, none⟩ = some (.int .i64 b') := (blk_cell N2.out 1).trans rfl; have ew32 : w3.cell? ⟨g2, 2, none⟩ = some (.int .i64 p') := (blk_cell N2.out 2).trans rfl; have ew33 : w3.cell? ⟨g2, 3, none⟩ = some (.slice A2 d2.length c2) := (blk_cell N2.out 3).trans rfl; clear hb_) | (go_at_call 48; (with_reducible refine (impl_isImage.calls a' b' p' A2 c2 d2 _ w3 (Kd.C_below HR2.out HB3.out) HC2.out E2.out).mono ?_); rintro e w4 ⟨rfl, hb_⟩; have HB4 := Aside0.mk (below_then HB3.out HB3.out.size hb_); have O1 := Aside0.mk (blk_below N1.out hb_); have O2 := Aside0.mk (blk_below N2.out hb_); have fw40 : w4.cell? ⟨g1, 0, none⟩ = some (.int .i64 a) := (blk_cell O1.out 0).trans rfl; have fw41 : w4.cell? ⟨g1, 1, none⟩ = some (.int .i64 b) := (blk_cell O1.out 1).trans rfl; have fw42 : w4.cell? ⟨g1, 2, none⟩ = some (.int .i64 p) := (blk_cell O1.out 2).trans rfl; have fw43 : w4.cell? ⟨g1, 3, none⟩ = some (.slice A1 d1.length c1) := (blk_cell O1.out 3).trans rfl; have ew40 : w4.cell? ⟨g2, 0, none⟩ = some (.int .i64 a') := (blk_cell O2.out 0).trans rfl; have ew41 : w4.cell? ⟨g2, 1, none⟩ = some (.int .i64 b') := (blk_cell O2.out 1).trans rfl; have ew42 : w4.cell? ⟨g2, 2, none⟩ = some (.int .i64 p') := (blk_cell O2.out 2).trans rfl; have ew43 : w4.cell? ⟨g2, 3, none⟩ = some (.slice A2 d2.length c2) := (blk_cell O2.out 3).trans rfl; clear hb_) | (go_at_call 49; (with_reducible refine (impl_alikeImages.calls a b p A1 c1 d1 a' b' p' A2 c2 d2 _ w4 (Kd.C_below HR1.out HB4.out) HC1.out (Kd.C_below HR2.out HB4.out) HC2.out E3.out).mono ?_); rintro e w5 ⟨rfl, hb_⟩; have HB5 := Aside0.mk (below_then HB4.out HB4.out.size hb_); have P1 := Aside0.mk (blk_below O1.out hb_); have P2 := Aside0.mk (blk_below O2.out hb_); have fw50 : w5.cell? ⟨g1, 0, none⟩ = some (.int .i64 a) := (blk_cell P1.out 0).trans rfl; have fw51 : w5.cell? ⟨g1, 1, none⟩ = some (.int .i64 b) := (blk_cell P1.out 1).trans rfl; have fw52 : w5.cell? ⟨g1, 2, none⟩ = some (.int .i64 p) := (blk_cell P1.out 2).trans rfl; have fw53 : w5.cell? ⟨g1, 3, none⟩ = some (.slice A1 d1.length c1) := (blk_cell P1.out 3).trans rfl; have ew50 : w5.cell? ⟨g2, 0, none⟩ = some (.int .i64 a') := (blk_cell P2.out 0).trans rfl; have ew51 : w5.cell? ⟨g2, 1, none⟩ = some (.int .i64 b') := (blk_cell P2.out 1).trans rfl; have ew52 : w5.cell? ⟨g2, 2, none⟩ = some (.int .i64 p') := (blk_cell P2.out 2).trans rfl; have ew53 : w5.cell? ⟨g2, 3, none⟩ = some (.slice A2 d2.length c2) := (blk_cell P2.out 3).trans rfl; clear hb_))
        go_ret
        exact ⟨_, rfl, Kd.R_nil _ _ _ _ _, HB5.out⟩
end Go.Proofs.Ytbgohbinonkhfaa.Q

namespace Go.Proofs.Ytbgohbinonkhfaa.Q
open Go.RowKit Go.Proofs.YtbgohbinonkhfaaW.PrintWords Go.Proofs.YtbgohbinonkhfaaW.PrintLast Go.Proofs.YtbgohbinonkhfaaW.PrintMore
attribute [local go_sem] max2_int min2_int max_two min_two max_three min_three max_four min_four
set_option linter.unusedVariables false
set_option linter.unusedSimpArgs false
/-- A state of type 100 at block g of W; what its slices lead to came in by w0. -/
def IsS100 (w0 W : World) (g : Nat) (f0 : List Int) (f1 : Int) : Prop := ∃ A0 c0, W.heap[g]? = some (.cells #[.slice A0 f0.length c0, .int .i64 f1] 100 (0, 0)) ∧ w0.heap.size ≤ g ∧ Kd.C (Kd.int .u8) w0 A0 f0.length f0
theorem IsS100.grown {w0 W : World} {g : Nat} {f0 : List Int} {f1 : Int} {W1 : World} {row : Option Nat} (h : IsS100 w0 W g f0 f1) (hw : W.grownBy W1 row) (hne : some g ≠ row) : IsS100 w0 W1 g f0 f1 := by
  obtain ⟨A0, c0, hb, hg, hr0⟩ := h
  exact ⟨A0, c0, blk_grown hb hw hne, hg, hr0⟩
theorem IsS100.own_neN {w0 W : World} {g : Nat} {f0 : List Int} {f1 : Int} {α : Type} {d : Kd α} {e : Nat} {base : Nat} {ok : Nat → Prop} {v : Value} {xs : List α} (h : IsS100 w0 W g f0 f1) (ho : Kd.N d e W base ok v xs) (ht : e ≠ 100) : some g ≠ v.ownBlock := by
  obtain ⟨A0, c0, hb, hg, hr0⟩ := h
  exact Kd.N_ne ho hb ht
theorem IsS100.fresh {w0 W : World} {g : Nat} {f0 : List Int} {f1 : Int} (h : IsS100 w0 W g f0 f1) : ∀ k, W.heap.size ≤ k → k ≠ g := by
  obtain ⟨A0, c0, hb, hg, hr0⟩ := h
  exact Kd.freshB hb
theorem IsS100.kept {w0 W : World} {g : Nat} {f0 : List Int} {f1 : Int} {W1 : World} {S : Nat → Prop} (h : IsS100 w0 W g f0 f1) (hk : Kept W W1 S) (hne : ¬ S g) : IsS100 w0 W1 g f0 f1 := by
  obtain ⟨A0, c0, hb, hg, hr0⟩ := h
  exact ⟨A0, c0, blk_kept hb hk hne, hg, hr0⟩
theorem IsS100.below {w0 W : World} {g : Nat} {f0 : List Int} {f1 : Int} {W1 : World} (h : IsS100 w0 W g f0 f1) (hw : Below W.heap.size W W1) : IsS100 w0 W1 g f0 f1 := h.grown (grown_of_below hw none) (by simp)
theorem IsS100.alloc {w0 W : World} {g : Nat} {f0 : List Int} {f1 : Int} (h : IsS100 w0 W g f0 f1) (o : Obj) : IsS100 w0 (W.alloc o) g f0 f1 := h.below (below_alloc (Below.refl _ _) o)
theorem IsS100.drewN {w0 W : World} {g : Nat} {f0 : List Int} {f1 : Int} (h : IsS100 w0 W g f0 f1) (m : Nat) : IsS100 w0 (W.drewN m) g f0 f1 := h
theorem IsS100.drew {w0 W : World} {g : Nat} {f0 : List Int} {f1 : Int} (h : IsS100 w0 W g f0 f1) : IsS100 w0 W.drew g f0 f1 := h
theorem IsS100.at_ {w0 W : World} {g : Nat} {f0 : List Int} {f1 : Int} {w' : World} {m : Nat} (hq : W.drewN m = w') (h : IsS100 w0 W g f0 f1) : IsS100 w0 w' g f0 f1 := by subst hq; exact IsS100.drewN h m
theorem IsS100.apart {w0 W : World} {g : Nat} {f0 : List Int} {f1 : Int} {α : Type} {d : Kd α} {e : Nat} {base : Nat} {ok : Nat → Prop} {v : Value} {xs : List α} (h : IsS100 w0 W g f0 f1) (ho : d.R e W base ok v xs) (ht : ∀ q, q ∈ e :: d.E → q ≠ 100) : d.R e W base (fun k => ok k ∧ k ≠ g) v xs := by
  obtain ⟨A0, c0, hb, hg, hr0⟩ := h
  exact Kd.R_types ho hb ht
theorem IsS100.own_ne {w0 W : World} {g : Nat} {f0 : List Int} {f1 : Int} {α : Type} {d : Kd α} {e : Nat} {base : Nat} {ok : Nat → Prop} {v : Value} {xs : List α} (h : IsS100 w0 W g f0 f1) (ho : d.R e W base ok v xs) (ht : e ≠ 100) : some g ≠ v.ownBlock := by
  obtain ⟨A0, c0, hb, hg, hr0⟩ := h
  exact Kd.R_ne ho hb ht
theorem IsS100.apartQ {w0 W : World} {g : Nat} {f0 : List Int} {f1 : Int} {α : Type} {d : Kd α} {e : Nat} {base : Nat} {ok : Nat → Prop} {v : Value} {xs : List α} (h : IsS100 w0 W g f0 f1) (ho : d.Q e W base ok v xs) (ht : ∀ q, q ∈ e :: d.E → q ≠ 100) : d.Q e W base (fun k => ok k ∧ k ≠ g) v xs := by
  obtain ⟨A0, c0, hb, hg, hr0⟩ := h
  exact Kd.Q_types ho hb ht
theorem IsS100.own_neQ {w0 W : World} {g : Nat} {f0 : List Int} {f1 : Int} {α : Type} {d : Kd α} {e : Nat} {base : Nat} {ok : Nat → Prop} {v : Value} {xs : List α} (h : IsS100 w0 W g f0 f1) (ho : d.Q e W base ok v xs) (ht : e ≠ 100) : some g ≠ v.ownBlock := by
  obtain ⟨A0, c0, hb, hg, hr0⟩ := h
  exact Kd.Q_ne ho hb ht
theorem IsS100.apartS {w0 W : World} {g : Nat} {f0 : List Int} {f1 : Int} {α : Type} {d : Kd α} {e : Nat} {base : Nat} {ok : Nat → Prop} {v : Value} {xs : List α} (h : IsS100 w0 W g f0 f1) (ho : d.S e W base ok v xs) (ht : ∀ q, q ∈ e :: d.E → q ≠ 100) : d.S e W base (fun k => ok k ∧ k ≠ g) v xs := by
  obtain ⟨A0, c0, hb, hg, hr0⟩ := h
  exact Kd.S_types ho hb ht
theorem IsS100.own_neS {w0 W : World} {g : Nat} {f0 : List Int} {f1 : Int} {α : Type} {d : Kd α} {e : Nat} {base : Nat} {ok : Nat → Prop} {v : Value} {xs : List α} (h : IsS100 w0 W g f0 f1) (ho : d.S e W base ok v xs) (ht : e ≠ 100) : some g ≠ v.ownBlock := by
  obtain ⟨A0, c0, hb, hg, hr0⟩ := h
  exact Kd.S_ne ho hb ht
theorem IsS100.lt {w0 W : World} {g : Nat} {f0 : List Int} {f1 : Int} (h : IsS100 w0 W g f0 f1) : g < W.heap.size := by
  obtain ⟨A0, c0, hb, hg, hr0⟩ := h
  exact blk_lt hb
theorem IsS100.ge {w0 W : World} {g : Nat} {f0 : List Int} {f1 : Int} (h : IsS100 w0 W g f0 f1) : w0.heap.size ≤ g := by
  obtain ⟨A0, c0, hb, hg, hr0⟩ := h
  exact hg
theorem IsS100.ne_blk {w0 W : World} {g : Nat} {f0 : List Int} {f1 : Int} {a : Nat} {cs : Array Value} {t : TypeId} {fr : Nat × Nat} (h : IsS100 w0 W g f0 f1) (hb2 : W.heap[a]? = some (.cells cs t fr)) (ht : t ≠ 100) : g ≠ a := by
  obtain ⟨A0, c0, hb, hg, hr0⟩ := h
  rintro rfl
  rw [hb] at hb2
  injection hb2 with hb2
  injection hb2 with _ ht2
  exact ht ht2.symm
theorem IsS100.far {w0 W : World} {g : Nat} {f0 : List Int} {f1 : Int} {p : Addr} (h : IsS100 w0 W g f0 f1) (hne : g ≠ p.block) (u : Value) : IsS100 w0 (W.setCell p u) g f0 f1 := by
  obtain ⟨A0, c0, hb, hg, hr0⟩ := h
  exact ⟨A0, c0, blk_far hb hne u, hg, hr0⟩
theorem cellS100_0 {W : World} {g : Nat} {A0 : Option Addr} {c0 : Nat} {f0 : List Int} {f1 : Int} (h : W.heap[g]? = some (.cells #[.slice A0 f0.length c0, .int .i64 f1] 100 (0, 0))) : W.cell? ⟨g, 0, none⟩ = some (.slice A0 f0.length c0) := (blk_cell h 0).trans rfl
theorem cellS100_1 {W : World} {g : Nat} {A0 : Option Addr} {c0 : Nat} {f0 : List Int} {f1 : Int} (h : W.heap[g]? = some (.cells #[.slice A0 f0.length c0, .int .i64 f1] 100 (0, 0))) : W.cell? ⟨g, 1, none⟩ = some (.int .i64 f1) := (blk_cell h 1).trans rfl
theorem IsS100.set_1 {w0 W : World} {g : Nat} {f0 : List Int} {f1 : Int} (h : IsS100 w0 W g f0 f1) (x : Int) : IsS100 w0 (W.setCell ⟨g, 1, none⟩ (.int .i64 x)) g f0 x := by
  obtain ⟨A0, c0, hb, hg, hr0⟩ := h
  exact ⟨A0, c0, by simpa using blk_set hb 1 (.int .i64 x), hg, hr0⟩
theorem IsS100.new (w0 W : World) (A0 : Option Addr) (c0 : Nat) (f0 : List Int) (f1 : Int) (hB : Below w0.heap.size w0 W) (hr0 : Kd.C (Kd.int .u8) w0 A0 f0.length f0) : IsS100 w0 (W.alloc (.cells #[.slice A0 f0.length c0, .int .i64 f1] 100)) W.heap.size f0 f1 := ⟨A0, c0, by simpa using heap_alloc_new W _, hB.size, hr0⟩

def spec_reader_pick.j0 : Nat → Int → Bool → List Int → Int → Option (Int × Int)
  | 0, _, _, _, _ => none
  | k + 1, x1, x24, x1000, x1001 => if x24 = true then (some (0, x1001)) else (if (wrap64 (x1001 - 1)) < (x1000.length : Int) then (if 0 ≤ (wrap64 (x1001 - 1)) then (if x1 = 0 then none else (some (Int.tmod (wrap64 (rd x1000 (wrap64 (x1001 - 1)))) x1, x1001))) else none) else (if (x1000.length : Int) = 0 then none else (if 0 ≤ (Int.tmod (wrap64 (x1001 - 1)) (x1000.length : Int)) then (if (Int.tmod (wrap64 (x1001 - 1)) (x1000.length : Int)) < (x1000.length : Int) then (if 0 ≤ (Int.tmod (wrap64 ((wrap64 ((wrap64 (x1001 - 1)) * 7)) + 3)) (x1000.length : Int)) then (if (Int.tmod (wrap64 ((wrap64 ((wrap64 (x1001 - 1)) * 7)) + 3)) (x1000.length : Int)) < (x1000.length : Int) then (if x1 = 0 then none else (some (Int.tmod (Go.bits .xor .i64 (wrap64 ((wrap64 ((wrap64 ((wrap64 ((wrap64 (rd x1000 (Int.tmod (wrap64 (x1001 - 1)) (x1000.length : Int)))) * 131)) + (wrap64 ((wrap64 (rd x1000 (Int.tmod (wrap64 ((wrap64 ((wrap64 (x1001 - 1)) * 7)) + 3)) (x1000.length : Int)))) * 1117)))) + (wrap64 ((wrap64 (x1001 - 1)) * 29)))) + (wrap64 ((wrap64 (Int.tdiv (wrap64 (x1001 - 1)) (x1000.length : Int))) * 53)))) (wrap64 (Int.tdiv (wrap64 ((wrap64 ((wrap64 ((wrap64 ((wrap64 (rd x1000 (Int.tmod (wrap64 (x1001 - 1)) (x1000.length : Int)))) * 131)) + (wrap64 ((wrap64 (rd x1000 (Int.tmod (wrap64 ((wrap64 ((wrap64 (x1001 - 1)) * 7)) + 3)) (x1000.length : Int)))) * 1117)))) + (wrap64 ((wrap64 (x1001 - 1)) * 29)))) + (wrap64 ((wrap64 (Int.tdiv (wrap64 (x1001 - 1)) (x1000.length : Int))) * 53)))) 64))) x1, x1001))) else none) else none) else none) else none)))
def spec_reader_pick.f (k : Nat) (s0_0 : List Int) (s0_1 : Int) (a1 : Int) : Option (Int × Int) := if a1 < 1 then (spec_reader_pick.j0 k a1 true s0_0 (wrap64 (s0_1 + 1))) else (spec_reader_pick.j0 k a1 ((s0_0.length : Int) == 0) s0_0 (wrap64 (s0_1 + 1)))
theorem spec_reader_pick.mono_l : ∀ k, (∀ y0 y1 y2 y3, LeO (spec_reader_pick.j0 k y0 y1 y2 y3) (spec_reader_pick.j0 (k + 1) y0 y1 y2 y3))
  | 0 => fun _ _ _ _ r h => by simp [spec_reader_pick.j0] at h
  | k + 1 => by
    have ih0 := spec_reader_pick.mono_l k
    · intro y0 y1 y2 y3
      unfold spec_reader_pick.j0
      repeat' (with_reducible exact LeO.refl _)
theorem spec_reader_pick.mono : ∀ a0 a1 a2 k, LeO (spec_reader_pick.f k a0 a1 a2) (spec_reader_pick.f (k + 1) a0 a1 a2) := by
  intro a0 a1 a2 k
  have ih0 := spec_reader_pick.mono_l k
  unfold spec_reader_pick.f
  repeat' first | (with_reducible exact ih0 _ _ _ _) | (with_reducible refine LeO.ite ?_ ?_)
set_option maxHeartbeats 8000000 in
set_option maxRecDepth 100000 in
theorem spec_reader_pick.calls (k : Nat) (g : Nat) (s0_0 : List Int) (s0_1 : Int) (a1 : Int) (r1 : Int) (r2 : Int) (w0 w : World) (hI : IsS100 w0 w g s0_0 s0_1) (hB : Below w0.heap.size w0 w) (h : spec_reader_pick.f k s0_0 s0_1 a1 = some (r1, r2)) :
    Calls Try.prog 82 #[.pointer (some ⟨g, 0, none⟩), .int .i64 a1] w fun e w' => e = .returned (.int .i64 r1) ∧ IsS100 w0 w' g s0_0 r2 ∧ Below w0.heap.size w0 w' ∧ KeepBut w w' g none := by
  have HI0 := Aside0.mk hI
  have HK := Aside0.mk (KeepBut.refl w g none)
  have HL := Aside0.mk hB.size
  clear hI
  have HW0 := Aside0.mk hB.size
  have HB := Aside0.mk hB
  clear hB
  have H : (if a1 < 1 then (spec_reader_pick.j0 k a1 true s0_0 (wrap64 (s0_1 + 1))) else (spec_reader_pick.j0 k a1 ((s0_0.length : Int) == 0) s0_0 (wrap64 (s0_1 + 1)))) = some (r1, r2) := h
  clear h
  have HC3 := Aside0.mk H
  clear H
  obtain ⟨ASz4_0, cSz4_0, HGz4, hgz4, HSz4_0⟩ := HI0.out
  have hcz4_0 := cellS100_0 HGz4
  have hcz4_1 := cellS100_1 HGz4
  have hfz4_1 := blk_frozen HGz4 1
  clear HGz4 hgz4
  go_enter Try.func82, Try.ntmps82
  go_upto_region 2 with (fail)
  repeat (go_quiet (fail); go_upto_region 2 with fail)
  go_cut [24] (fun v24 wc => ∃ (kq : Nat) (x24_2 : Bool), v24 = .bool x24_2 ∧ Aside0 (spec_reader_pick.j0 kq a1 x24_2 s0_0 (wrap64 (s0_1 + 1)) = some (r1, r2)) ∧ Aside0 (kq ≤ k) ∧ Aside0 (IsS100 w0 wc g s0_0 (wrap64 (s0_1 + 1))) ∧ Aside0 (KeepBut w wc g none) ∧ Aside0 (Below w0.heap.size w0 wc))
  case first =>
    have H := HC3.out
    clear HC3
    by_cases c5 : a1 < 1
    · rw [if_pos c5] at H
      have c5b0 : decide (a1 < 1) = true := decide_eq_true c5
      clear c5
      (skip)
      have H' := Aside0.mk H
      clear H
      go_wp2
      repeat (go_quiet (fail); try go_wp2)
      go_meet
      case rel => exact ⟨_, (true), (by rfl), H', ⟨by omega⟩, ⟨by repeat (with_reducible first | exact HI0.out | apply IsS100.set_1)⟩, ⟨by repeat (with_reducible first | exact HK.out | apply KeepBut.set_)⟩, ⟨by repeat ((with_reducible first | exact HB.out | refine below_set ?_ (IsS100.ge HI0.out)))⟩⟩
    · rw [if_neg c5] at H
      have c5b0 : decide (a1 < 1) = false := decide_eq_false c5
      clear c5
      (skip)
      have H' := Aside0.mk H
      clear H
      obtain ⟨ASz6_0, cSz6_0, HGz6, hgz6, HSz6_0⟩ := HI0.out
      have hcz6_0 := cellS100_0 HGz6
      have hcz6_1 := cellS100_1 HGz6
      have hfz6_1 := blk_frozen HGz6 1
      clear HGz6 hgz6
      go_wp2
      repeat (go_quiet (fail); try go_wp2)
      go_meet
      case rel => exact ⟨_, (((s0_0.length : Int) == 0)), (by rfl), H', ⟨by omega⟩, ⟨by repeat (with_reducible first | exact HI0.out | apply IsS100.set_1)⟩, ⟨by repeat (with_reducible first | exact HK.out | apply KeepBut.set_)⟩, ⟨by repeat ((with_reducible first | exact HB.out | refine below_set ?_ (IsS100.ge HI0.out)))⟩⟩
  case rest =>
    clear HC3
    try clear p2
    try clear c5
    try clear c5b0
    try clear p6
    try clear hcz4_0
    try clear hcz4_1
    try clear hcz6_0
    try clear hcz6_1
    try clear hfz4_1
    try clear hfz6_1
    obtain ⟨kq, x24_2, rfl, HA, HJ2, HI0, HK, HB⟩ := hcut
    cases kq with
    | zero => exact absurd HA.out (by simp [spec_reader_pick.j0])
    | succ kj2 =>
      have H := HA.out
      clear HA
      simp only [spec_reader_pick.j0] at H
      by_cases c7 : x24_2 = true
      · subst c7
        have H1 : (some (0, (wrap64 (s0_1 + 1)))) = some (r1, r2) := by rw [if_pos rfl] at H; exact H
        clear H
        have H := H1
        clear H1
        simp only [Option.some.injEq, Prod.mk.injEq] at H
        obtain ⟨rfl, rfl⟩ := H
        go_wp2
        repeat (go_quiet (fail); try go_wp2)
        go_ret
        exact ⟨by rfl, by exact HI0.out, by exact HB.out, by exact HK.out⟩
      · replace c7 := Bool.eq_false_iff.mpr c7
        subst c7
        have H1 : (if (wrap64 ((wrap64 (s0_1 + 1)) - 1)) < (s0_0.length : Int) then (if 0 ≤ (wrap64 ((wrap64 (s0_1 + 1)) - 1)) then (if a1 = 0 then none else (some (Int.tmod (wrap64 (rd s0_0 (wrap64 ((wrap64 (s0_1 + 1)) - 1)))) a1, (wrap64 (s0_1 + 1))))) else none) else (if (s0_0.length : Int) = 0 then none else (if 0 ≤ (Int.tmod (wrap64 ((wrap64 (s0_1 + 1)) - 1)) (s0_0.length : Int)) then (if (Int.tmod (wrap64 ((wrap64 (s0_1 + 1)) - 1)) (s0_0.length : Int)) < (s0_0.length : Int) then (if 0 ≤ (Int.tmod (wrap64 ((wrap64 ((wrap64 ((wrap64 (s0_1 + 1)) - 1)) * 7)) + 3)) (s0_0.length : Int)) then (if (Int.tmod (wrap64 ((wrap64 ((wrap64 ((wrap64 (s0_1 + 1)) - 1)) * 7)) + 3)) (s0_0.length : Int)) < (s0_0.length : Int) then (if a1 = 0 then none else (some (Int.tmod (Go.bits .xor .i64 (wrap64 ((wrap64 ((wrap64 ((wrap64 ((wrap64 (rd s0_0 (Int.tmod (wrap64 ((wrap64 (s0_1 + 1)) - 1)) (s0_0.length : Int)))) * 131)) + (wrap64 ((wrap64 (rd s0_0 (Int.tmod (wrap64 ((wrap64 ((wrap64 ((wrap64 (s0_1 + 1)) - 1)) * 7)) + 3)) (s0_0.length : Int)))) * 1117)))) + (wrap64 ((wrap64 ((wrap64 (s0_1 + 1)) - 1)) * 29)))) + (wrap64 ((wrap64 (Int.tdiv (wrap64 ((wrap64 (s0_1 + 1)) - 1)) (s0_0.length : Int))) * 53)))) (wrap64 (Int.tdiv (wrap64 ((wrap64 ((wrap64 ((wrap64 ((wrap64 (rd s0_0 (Int.tmod (wrap64 ((wrap64 (s0_1 + 1)) - 1)) (s0_0.length : Int)))) * 131)) + (wrap64 ((wrap64 (rd s0_0 (Int.tmod (wrap64 ((wrap64 ((wrap64 ((wrap64 (s0_1 + 1)) - 1)) * 7)) + 3)) (s0_0.length : Int)))) * 1117)))) + (wrap64 ((wrap64 ((wrap64 (s0_1 + 1)) - 1)) * 29)))) + (wrap64 ((wrap64 (Int.tdiv (wrap64 ((wrap64 (s0_1 + 1)) - 1)) (s0_0.length : Int))) * 53)))) 64))) a1, (wrap64 (s0_1 + 1))))) else none) else none) else none) else none))) = some (r1, r2) := by rw [if_neg (show ¬ (false = true) by decide)] at H; exact H
        clear H
        have H := H1
        clear H1
        by_cases c8 : (wrap64 ((wrap64 (s0_1 + 1)) - 1)) < (s0_0.length : Int)
        · rw [if_pos c8] at H
          have c8b0 : decide ((wrap64 ((wrap64 (s0_1 + 1)) - 1)) < (s0_0.length : Int)) = true := decide_eq_true c8
          clear c8
          obtain ⟨ji9, hji9⟩ : ∃ j_ : Int, (wrap64 ((wrap64 (s0_1 + 1)) - 1)) = j_ := ⟨_, rfl⟩
          replace H : (if 0 ≤ ji9 then (if a1 = 0 then none else (some (Int.tmod (wrap64 (rd s0_0 ji9)) a1, (wrap64 (s0_1 + 1))))) else none) = some (r1, r2) := by (rw [hji9] at H; exact H)
          (try rw [hji9] at c8b0)
          have hji9w : (IntKind.i64.wrap ((wrap64 (s0_1 + 1)) - 1)) = ji9 := (i64_w _).trans hji9
          by_cases c10 : 0 ≤ (ji9)
          · rw [if_pos c10] at H
            have c10b0 : decide (0 ≤ ji9) = true := decide_eq_true c10
            clear c10
            by_cases c11 : a1 = 0
            · rw [if_pos c11] at H
              exact absurd H (by simp)
            · rw [if_neg c11] at H
              have c11b0 : (a1 == 0) = false := beq_eq_false_iff_ne.mpr c11
              have c11b1 : (a1 != 0) = true := bne_iff_ne.mpr c11
              simp only [Option.some.injEq, Prod.mk.injEq] at H
              obtain ⟨rfl, rfl⟩ := H
              obtain ⟨ASz12_0, cSz12_0, HGz12, hgz12, HSz12_0⟩ := HI0.out
              have hcz12_0 := cellS100_0 HGz12
              have hcz12_1 := cellS100_1 HGz12
              have hfz12_1 := blk_frozen HGz12 1
              clear HGz12 hgz12
              have p83001 : 0 ≤ (ji9 : Int) := of_decide_eq_true (by (with_reducible assumption))
              have q83001 : ji9 < (s0_0.length : Int) := of_decide_eq_true (by (with_reducible assumption))
              obtain ⟨ad83001, e83001, hx83001_0⟩ := Kd.at_int HSz12_0 ji9 p83001 q83001
              cases e83001
              replace hx83001_0 := pw_cell_below HB.out hx83001_0
              replace p83001 := eq_true p83001
              replace q83001 := eq_true q83001
              go_wp2
              repeat (go_quiet (fail); try go_wp2)
              go_ret
              exact ⟨by rfl, by exact HI0.out, by exact HB.out, by exact HK.out⟩
          · rw [if_neg c10] at H
            exact absurd H (by simp)
        · rw [if_neg c8] at H
          have c8b0 : decide ((wrap64 ((wrap64 (s0_1 + 1)) - 1)) < (s0_0.length : Int)) = false := decide_eq_false c8
          clear c8
          by_cases c13 : (s0_0.length : Int) = 0
          · rw [if_pos c13] at H
            exact absurd H (by simp)
          · rw [if_neg c13] at H
            have c13b0 : ((s0_0.length : Int) == 0) = false := beq_eq_false_iff_ne.mpr c13
            have c13b1 : ((s0_0.length : Int) != 0) = true := bne_iff_ne.mpr c13
            have c13b2 : ¬ (s0_0 = []) := fun h_ => c13 (by rw [h_]; rfl)
            obtain ⟨ji14, hji14⟩ : ∃ j_ : Int, (Int.tmod (wrap64 ((wrap64 (s0_1 + 1)) - 1)) (s0_0.length : Int)) = j_ := ⟨_, rfl⟩
            replace H : (if 0 ≤ ji14 then (if ji14 < (s0_0.length : Int) then (if 0 ≤ (Int.tmod (wrap64 ((wrap64 ((wrap64 ((wrap64 (s0_1 + 1)) - 1)) * 7)) + 3)) (s0_0.length : Int)) then (if (Int.tmod (wrap64 ((wrap64 ((wrap64 ((wrap64 (s0_1 + 1)) - 1)) * 7)) + 3)) (s0_0.length : Int)) < (s0_0.length : Int) then (if a1 = 0 then none else (some (Int.tmod (Go.bits .xor .i64 (wrap64 ((wrap64 ((wrap64 ((wrap64 ((wrap64 (rd s0_0 ji14)) * 131)) + (wrap64 ((wrap64 (rd s0_0 (Int.tmod (wrap64 ((wrap64 ((wrap64 ((wrap64 (s0_1 + 1)) - 1)) * 7)) + 3)) (s0_0.length : Int)))) * 1117)))) + (wrap64 ((wrap64 ((wrap64 (s0_1 + 1)) - 1)) * 29)))) + (wrap64 ((wrap64 (Int.tdiv (wrap64 ((wrap64 (s0_1 + 1)) - 1)) (s0_0.length : Int))) * 53)))) (wrap64 (Int.tdiv (wrap64 ((wrap64 ((wrap64 ((wrap64 ((wrap64 (rd s0_0 ji14)) * 131)) + (wrap64 ((wrap64 (rd s0_0 (Int.tmod (wrap64 ((wrap64 ((wrap64 ((wrap64 (s0_1 + 1)) - 1)) * 7)) + 3)) (s0_0.length : Int)))) * 1117)))) + (wrap64 ((wrap64 ((wrap64 (s0_1 + 1)) - 1)) * 29)))) + (wrap64 ((wrap64 (Int.tdiv (wrap64 ((wrap64 (s0_1 + 1)) - 1)) (s0_0.length : Int))) * 53)))) 64))) a1, (wrap64 (s0_1 + 1))))) else none) else none) else none) else none) = some (r1, r2) := by (rw [hji14] at H; exact H)
            by_cases c15 : 0 ≤ (ji14)
            · rw [if_pos c15] at H
              have c15b0 : decide (0 ≤ ji14) = true := decide_eq_true c15
              clear c15
              by_cases c16 : ji14 < (s0_0.length : Int)
              · rw [if_pos c16] at H
                have c16b0 : decide (ji14 < (s0_0.length : Int)) = true := decide_eq_true c16
                clear c16
                obtain ⟨ji17, hji17⟩ : ∃ j_ : Int, (Int.tmod (wrap64 ((wrap64 ((wrap64 ((wrap64 (s0_1 + 1)) - 1)) * 7)) + 3)) (s0_0.length : Int)) = j_ := ⟨_, rfl⟩
                replace H : (if 0 ≤ ji17 then (if ji17 < (s0_0.length : Int) then (if a1 = 0 then none else (some (Int.tmod (Go.bits .xor .i64 (wrap64 ((wrap64 ((wrap64 ((wrap64 ((wrap64 (rd s0_0 ji14)) * 131)) + (wrap64 ((wrap64 (rd s0_0 ji17)) * 1117)))) + (wrap64 ((wrap64 ((wrap64 (s0_1 + 1)) - 1)) * 29)))) + (wrap64 ((wrap64 (Int.tdiv (wrap64 ((wrap64 (s0_1 + 1)) - 1)) (s0_0.length : Int))) * 53)))) (wrap64 (Int.tdiv (wrap64 ((wrap64 ((wrap64 ((wrap64 ((wrap64 (rd s0_0 ji14)) * 131)) + (wrap64 ((wrap64 (rd s0_0 ji17)) * 1117)))) + (wrap64 ((wrap64 ((wrap64 (s0_1 + 1)) - 1)) * 29)))) + (wrap64 ((wrap64 (Int.tdiv (wrap64 ((wrap64 (s0_1 + 1)) - 1)) (s0_0.length : Int))) * 53)))) 64))) a1, (wrap64 (s0_1 + 1))))) else none) else none) = some (r1, r2) := by (rw [hji17] at H; exact H)
                by_cases c18 : 0 ≤ (ji17)
                · rw [if_pos c18] at H
                  have c18b0 : decide (0 ≤ ji17) = true := decide_eq_true c18
                  clear c18
                  by_cases c19 : ji17 < (s0_0.length : Int)
                  · rw [if_pos c19] at H
                    have c19b0 : decide (ji17 < (s0_0.length : Int)) = true := decide_eq_true c19
                    clear c19
                    by_cases c20 : a1 = 0
                    · rw [if_pos c20] at H
                      exact absurd H (by simp)
                    · rw [if_neg c20] at H
                      have c20b0 : (a1 == 0) = false := beq_eq_false_iff_ne.mpr c20
                      have c20b1 : (a1 != 0) = true := bne_iff_ne.mpr c20
                      simp only [Option.some.injEq, Prod.mk.injEq] at H
                      obtain ⟨rfl, rfl⟩ := H
                      obtain ⟨ASz21_0, cSz21_0, HGz21, hgz21, HSz21_0⟩ := HI0.out
                      have hcz21_0 := cellS100_0 HGz21
                      have hcz21_1 := cellS100_1 HGz21
                      have hfz21_1 := blk_frozen HGz21 1
                      clear HGz21 hgz21
                      have p83002 : 0 ≤ (ji14 : Int) := of_decide_eq_true (by (with_reducible assumption))
                      have q83002 : ji14 < (s0_0.length : Int) := of_decide_eq_true (by (with_reducible assumption))
                      obtain ⟨ad83002, e83002, hx83002_0⟩ := Kd.at_int HSz21_0 ji14 p83002 q83002
                      cases e83002
                      replace hx83002_0 := pw_cell_below HB.out hx83002_0
                      replace p83002 := eq_true p83002
                      replace q83002 := eq_true q83002
                      have p83003 : 0 ≤ (ji17 : Int) := of_decide_eq_true (by (with_reducible assumption))
                      have q83003 : ji17 < (s0_0.length : Int) := of_decide_eq_true (by (with_reducible assumption))
                      obtain ⟨ad83003, e83003, hx83003_0⟩ := Kd.at_int HSz21_0 ji17 p83003 q83003
                      obtain rfl : ad83002 = ad83003 := (by injection e83003)
                      replace hx83003_0 := pw_cell_below HB.out hx83003_0
                      replace p83003 := eq_true p83003
                      replace q83003 := eq_true q83003
                      go_wp2
                      repeat (go_quiet (fail); try go_wp2)
                      go_ret
                      exact ⟨by rfl, by repeat (with_reducible first | exact HI0.out | apply IsS100.drewN), by repeat (with_reducible first | exact HB.out | apply pw_below_drewN), by repeat (with_reducible first | exact HK.out | apply keep_drewN)⟩
                  · rw [if_neg c19] at H
                    exact absurd H (by simp)
                · rw [if_neg c18] at H
                  exact absurd H (by simp)
              · rw [if_neg c16] at H
                exact absurd H (by simp)
            · rw [if_neg c15] at H
              exact absurd H (by simp)


def spec_reader_one.f (k : Nat) (s0_0 : List Int) (s0_1 : Int) (l1 : List Int) : Option (Int × Int) := (spec_reader_pick.f k s0_0 s0_1 (l1.length : Int)).bind fun bt74001 => (if 0 ≤ bt74001.1 then (if bt74001.1 < (l1.length : Int) then (some (rd l1 bt74001.1, bt74001.2)) else (none)) else (none))
theorem spec_reader_one.mono : ∀ a0 a1 a2 k, LeO (spec_reader_one.f k a0 a1 a2) (spec_reader_one.f (k + 1) a0 a1 a2) := by
  intro a0 a1 a2 k
  unfold spec_reader_one.f
  repeat' first
      | (with_reducible exact spec_reader_pick.mono _ _ _ _)
      | (with_reducible exact LeO.refl _)
      | (with_reducible exact LeO.none _)
      | (with_reducible refine LeO.ite ?_ ?_)
      | (with_reducible refine LeO.bind ?_ (fun _ => ?_))
      | exact spec_reader_pick.mono _ _ _ _
      | exact LeO.none _
      | refine LeO.ite ?_ ?_
      | refine LeO.bind ?_ (fun _ => ?_)
set_option maxHeartbeats 8000000 in
set_option maxRecDepth 100000 in
theorem spec_reader_one.calls (k : Nat) (g : Nat) (s0_0 : List Int) (s0_1 : Int) (A1 : Option Addr) (c1 : Nat) (l1 : List Int) (r1 : Int) (r2 : Int) (w0 w : World) (hI : IsS100 w0 w g s0_0 s0_1) (hB : Below w0.heap.size w0 w) (hr1 : Kd.C (Kd.int .i64) w A1 l1.length l1) (hc1 : l1.length ≤ c1) (hf1 : ∀ ad, A1 = some ad → 0 < l1.length → ad.block ≠ g) (h : spec_reader_one.f k s0_0 s0_1 l1 = some (r1, r2)) :
    Calls Try.prog 73 #[.pointer (some ⟨g, 0, none⟩), .slice A1 l1.length c1] w fun e w' => e = .returned (.int .i64 r1) ∧ IsS100 w0 w' g s0_0 r2 ∧ Below w0.heap.size w0 w' ∧ KeepBut w w' g none := by
  have HR1 := Aside0.mk hr1
  have HC1 := Aside0.mk hc1
  clear hr1 hc1
  have HI0 := Aside0.mk hI
  have HK := Aside0.mk (KeepBut.refl w g none)
  have HL := Aside0.mk hB.size
  clear hI
  have HW0 := Aside0.mk hB.size
  have HB := Aside0.mk hB
  clear hB
  have H : ((spec_reader_pick.f k s0_0 s0_1 (l1.length : Int)).bind fun bt74001 => (if 0 ≤ bt74001.1 then (if bt74001.1 < (l1.length : Int) then (some (rd l1 bt74001.1, bt74001.2)) else (none)) else (none))) = some (r1, r2) := h
  clear h
  replace H := Option.bind_eq_some_iff.mp H
  obtain ⟨⟨t74001, t74002⟩, A30, H⟩ := H
  replace H : (if 0 ≤ t74001 then (if t74001 < (l1.length : Int) then (some (rd l1 t74001, t74002)) else (none)) else (none)) = some (r1, r2) := H
  have A3 := Aside0.mk A30
  clear A30
  by_cases c4 : 0 ≤ t74001
  · rw [if_pos c4] at H
    have c4b0 : decide (0 ≤ t74001) = true := decide_eq_true c4
    clear c4
    by_cases c5 : t74001 < (l1.length : Int)
    · rw [if_pos c5] at H
      have c5b0 : decide (t74001 < (l1.length : Int)) = true := decide_eq_true c5
      clear c5
      simp only [Option.some.injEq, Prod.mk.injEq] at H
      obtain ⟨rfl, rfl⟩ := H
      go_enter Try.func73, Try.ntmps73
      go_wp2_with (first | ((with_reducible refine gate_callee (f := 82) rfl ?_); refine goesL_ (some 9) rfl rfl Try.func82 (by kernel_rfl) rfl #[.pointer (some ⟨g, 0, none⟩), .int .i64 (l1.length : Int)] rfl (by (try simp only [List.map_toArray, List.map_cons, List.map_nil]); first | done | rfl | (simp only [List.length_drop, List.length_take]; rfl)) ?_; (with_reducible refine (spec_reader_pick.calls k g s0_0 s0_1 (l1.length : Int) t74001 t74002 w0 _ ?side1 ?side2 A3.out).mono ?_); (case side1 => repeat (first | (with_reducible first | exact HI0.out | apply IsS100.alloc | apply IsS100.drewN | apply IsS100.drew | apply IsS100.set_1) | exact HI0.out)); (case side2 => repeat (first | (with_reducible first | exact HB.out | apply below_alloc | apply pw_below_drewN | apply below_drew1 | refine below_set ?_ (IsS100.ge HI0.out)) | exact HB.out)); rintro e w6 ⟨rfl, hi, hb, hk⟩; refine ⟨_, rfl, ?_⟩; have n0_ := Aside0.mk (KeepBut.trans (by repeat (first | (with_reducible first | exact HK.out | apply KeepBut.set_ | apply keep_drewN | apply keep_drew | apply keep_alloc) | exact HK.out)) hk (.inl rfl)); have n1_ := Aside0.mk (hb); have n2_ := Aside0.mk (hi); clear HK; clear HB; clear HI0; have HK := n0_; have HB := n1_; have HI0 := n2_; clear n0_ n1_ n2_; (try clear hb); (try clear hb2); (try clear hk); (try clear hi); have p74003 : 0 ≤ (t74001 : Int) := of_decide_eq_true (by first | (with_reducible assumption) | assumption); have q74003 : t74001 < (l1.length : Int) := of_decide_eq_true (by first | (with_reducible assumption) | assumption); obtain ⟨ad74003, e74003, hx74003_0⟩ := Kd.at_int HR1.out t74001 p74003 q74003; cases e74003; replace hx74003_0 := keep_cell HK.out hx74003_0 (by first | (rw [add_block]; exact hf1 _ rfl (by omega)) | exact hf1 _ rfl (by omega) | exact hf1 ad74003 rfl (by omega)); replace p74003 := eq_true p74003; replace q74003 := eq_true q74003))
      go_ret
      exact ⟨by first | rfl | (simp [errW_none, errW_some] <;> rfl) | (simp [*, errW_none, errW_some] <;> rfl), by repeat (first | (with_reducible first | exact HI0.out | apply IsS100.alloc | apply IsS100.drewN | apply IsS100.drew | apply IsS100.set_1) | exact HI0.out), by repeat (first | (with_reducible first | exact HB.out | apply below_alloc | apply pw_below_drewN | apply below_drew1 | refine below_set ?_ (IsS100.ge HI0.out)) | exact HB.out), by repeat (first | (with_reducible first | exact HK.out | apply KeepBut.set_ | apply keep_drewN | apply keep_drew | apply keep_alloc) | exact HK.out)⟩
    · rw [if_neg c5] at H
      exact absurd H (by simp)
  · rw [if_neg c4] at H
    exact absurd H (by simp)


def spec_spoilImage.f (k : Nat) (s0_0 : List Int) (s0_1 : Int) (a1_0 : Int) (a1_1 : Int) (a1_2 : Int) (l1_3 : List Int) : Option (Int × Int × Int × List Int × Int) := (spec_reader_pick.f k s0_0 s0_1 40).bind fun bt100003 => (if bt100003.1 = 0 then ((spec_reader_one.f k s0_0 bt100003.2 (([0, 17, wrap64 (a1_0 + 1)] : List Int))).bind fun bt100008 => (some (bt100008.1, a1_1, a1_2, l1_3, bt100008.2))) else (if bt100003.1 = 1 then (if 1 ≤ (l1_3.length : Int) then (some (a1_0, a1_1, a1_2, (l1_3.drop (1 : Int).toNat), bt100003.2)) else none) else (if bt100003.1 = 2 then ((spec_reader_one.f k s0_0 bt100003.2 (([(-1), 256] : List Int))).bind fun bt100016 => (if 0 < (l1_3.length : Int) then (some (a1_0, a1_1, a1_2, (l1_3.set (0 : Int).toNat bt100016.1), bt100016.2)) else none)) else (if bt100003.1 = 3 then ((spec_reader_one.f k s0_0 bt100003.2 ([0, 5] : List Int)).bind fun bt100022 => (some (a1_0, a1_1, bt100022.1, l1_3, bt100022.2))) else (some (a1_0, a1_1, a1_2, l1_3, bt100003.2))))))
theorem spec_spoilImage.mono : ∀ a0 a1 a2 a3 a4 a5 k, LeO (spec_spoilImage.f k a0 a1 a2 a3 a4 a5) (spec_spoilImage.f (k + 1) a0 a1 a2 a3 a4 a5) := by
  intro a0 a1 a2 a3 a4 a5 k
  unfold spec_spoilImage.f
  repeat' first | (with_reducible exact spec_reader_one.mono _ _ _ _) | (with_reducible exact spec_reader_pick.mono _ _ _ _) | (with_reducible exact LeO.refl _) | (with_reducible refine LeO.ite ?_ ?_) | (with_reducible refine LeO.bind ?_ (fun _ => ?_))
set_option maxHeartbeats 8000000 in
set_option maxRecDepth 100000 in
theorem spec_spoilImage.calls (k : Nat) (g : Nat) (s0_0 : List Int) (s0_1 : Int) (a1_0 : Int) (a1_1 : Int) (a1_2 : Int) (P1_3_ : Nat → Prop) (u9000_ : Value) (l1_3 : List Int) (r1 : Int) (r2 : Int) (r3 : Int) (r4 : List Int) (r5 : Int) (w0 w : World) (hI : IsS100 w0 w g s0_0 s0_1) (hB : Below w0.heap.size w0 w) (ho1_3 : Kd.R (Kd.int .i64) 3 w w0.heap.size P1_3_ u9000_ l1_3) (h : spec_spoilImage.f k s0_0 s0_1 a1_0 a1_1 a1_2 l1_3 = some (r1, r2, r3, r4, r5)) :
    Calls Try.prog 99 #[.pointer (some ⟨g, 0, none⟩), .agg #[.int .i64 a1_0, .int .i64 a1_1, .int .i64 a1_2, u9000_]] w fun e w' => ∃ v3_ : Value, e = .returned (.agg #[.int .i64 r1, .int .i64 r2, .int .i64 r3, v3_]) ∧ Kd.Q (Kd.int .i64) 3 w' w0.heap.size (fun k_ => (P1_3_ k_ ∨ w.heap.size ≤ k_)) v3_ r4 ∧ IsS100 w0 w' g s0_0 r5 ∧ Below w0.heap.size w0 w' ∧ Kept w w' (fun k_ => (P1_3_ k_) ∨ k_ = g) := by
  have hu28 := Try.underlying28
  have HO1_3 := Aside0.mk (show Kd.R (Kd.int .i64) 3 w w0.heap.size (fun k_ => (P1_3_ k_ ∨ w.heap.size ≤ k_)) u9000_ l1_3 from Kd.R_mono ho1_3 (fun k_ hk => (.inl hk)))
  have HI0 := Aside0.mk hI
  have HL := Aside0.mk hB.size
  clear hI
  have HK := Aside0.mk (Kept.refl w (fun k_ => (P1_3_ k_) ∨ k_ = g))
  have HW0 := Aside0.mk hB.size
  have HB := Aside0.mk hB
  clear hB
  have H : ((spec_reader_pick.f k s0_0 s0_1 40).bind fun bt100003 => (if bt100003.1 = 0 then ((spec_reader_one.f k s0_0 bt100003.2 (([0, 17, wrap64 (a1_0 + 1)] : List Int))).bind fun bt100008 => (some (bt100008.1, a1_1, a1_2, l1_3, bt100008.2))) else (if bt100003.1 = 1 then (if 1 ≤ (l1_3.length : Int) then (some (a1_0, a1_1, a1_2, (l1_3.drop (1 : Int).toNat), bt100003.2)) else none) else (if bt100003.1 = 2 then ((spec_reader_one.f k s0_0 bt100003.2 (([(-1), 256] : List Int))).bind fun bt100016 => (if 0 < (l1_3.length : Int) then (some (a1_0, a1_1, a1_2, (l1_3.set (0 : Int).toNat bt100016.1), bt100016.2)) else none)) else (if bt100003.1 = 3 then ((spec_reader_one.f k s0_0 bt100003.2 ([0, 5] : List Int)).bind fun bt100022 => (some (a1_0, a1_1, bt100022.1, l1_3, bt100022.2))) else (some (a1_0, a1_1, a1_2, l1_3, bt100003.2))))))) = some (r1, r2, r3, r4, r5) := h
  clear h
  replace H := Option.bind_eq_some_iff.mp H
  obtain ⟨⟨t100003, t100004⟩, A30, H⟩ := H
  replace H : (if t100003 = 0 then ((spec_reader_one.f k s0_0 t100004 (([0, 17, wrap64 (a1_0 + 1)] : List Int))).bind fun bt100008 => (some (bt100008.1, a1_1, a1_2, l1_3, bt100008.2))) else (if t100003 = 1 then (if 1 ≤ (l1_3.length : Int) then (some (a1_0, a1_1, a1_2, (l1_3.drop (1 : Int).toNat), t100004)) else none) else (if t100003 = 2 then ((spec_reader_one.f k s0_0 t100004 (([(-1), 256] : List Int))).bind fun bt100016 => (if 0 < (l1_3.length : Int) then (some (a1_0, a1_1, a1_2, (l1_3.set (0 : Int).toNat bt100016.1), bt100016.2)) else none)) else (if t100003 = 3 then ((spec_reader_one.f k s0_0 t100004 ([0, 5] : List Int)).bind fun bt100022 => (some (a1_0, a1_1, bt100022.1, l1_3, bt100022.2))) else (some (a1_0, a1_1, a1_2, l1_3, t100004)))))) = some (r1, r2, r3, r4, r5) := H
  have A3 := Aside0.mk A30
  clear A30
  by_cases c4 : t100003 = 0
  · rw [if_pos c4] at H
    have c4b0 : (t100003 == 0) = true := beq_iff_eq.mpr c4
    have c4b1 : (t100003 != 0) = false := bne_eq_false_iff_eq.mpr c4
    clear c4
    obtain ⟨y100005, hy100005⟩ : ∃ y_ : List Int, y_ = (([0, 17, wrap64 (a1_0 + 1)] : List Int)) := ⟨_, rfl⟩
    replace H : ((spec_reader_one.f k s0_0 t100004 y100005).bind fun bt100008 => (some (bt100008.1, a1_1, a1_2, l1_3, bt100008.2))) = some (r1, r2, r3, r4, r5) := by (rw [hy100005]; with_reducible exact H)
    have Ny100005 := Aside0.mk hy100005
    clear hy100005
    replace H := Option.bind_eq_some_iff.mp H
    obtain ⟨⟨t100008, t100009⟩, A50, H⟩ := H
    replace H : (some (t100008, a1_1, a1_2, l1_3, t100009)) = some (r1, r2, r3, r4, r5) := H
    have A5 := Aside0.mk A50
    clear A50
    simp only [Option.some.injEq, Prod.mk.injEq] at H
    obtain ⟨rfl, rfl, rfl, rfl, rfl⟩ := H
    obtain ⟨Ao6, co6, eo6⟩ := Kd.R_slice HO1_3.out
    subst eo6
    go_enter Try.func99, Try.ntmps99
    go_wp2_with (first | ((with_reducible refine gate_dst (N := 3) rfl ?_); refine box_event ?hg (N := 3) ?hd (cs := #[.int .i64 a1_0, .int .i64 a1_1, .int .i64 a1_2, .slice Ao6 l1_3.length co6]) (t := 28) ?hr ?_; (case hd => rfl); (case hg => rfl); (case hr => (go_simp; done)); intro gb100001 hg w7 hbox hb; have n0_ := Aside0.mk (Kd.R_below HO1_3.out hb); have n1_ := Aside0.mk (IsS100.below HI0.out hb); have n2_ := Aside0.mk (Kept.below (S := (fun k_ => (P1_3_ k_) ∨ k_ = g)) HK.out hb); have n3_ := Aside0.mk (below_step HB.out hb); have n4_ := Aside0.mk (hbox); have n5_ := Aside0.mk (by rw [hg]; exact HK.out.1 : w.heap.size ≤ gb100001); have n6_ := Aside0.mk ((by rw [hg]; exact (below_size HB.out) : w0.heap.size ≤ gb100001)); have n7_ := Aside0.mk ((by rw [hg]; exact Nat.ne_of_lt (IsS100.lt (show IsS100 w0 _ g s0_0 s0_1 from by exact HI0.out)) : g ≠ gb100001)); have n8_ := Aside0.mk ((by rw [hg]; exact Nat.ne_of_gt (IsS100.lt (show IsS100 w0 _ g s0_0 s0_1 from by exact HI0.out)) : gb100001 ≠ g)); clear HO1_3; clear HI0; clear HK; clear HB; have HO1_3 := n0_; have HI0 := n1_; have HK := n2_; have HB := n3_; have BK100001 := n4_; have GW100001 := n5_; have GE100001 := n6_; have NB0_100001 := n7_; have NB100001_0 := n8_; clear n0_ n1_ n2_ n3_ n4_ n5_ n6_ n7_ n8_; clear hb hbox hg) | ((with_reducible refine gate_dst (N := 4) rfl ?_); refine box_event ?hg (N := 4) ?hd (cs := #[.int .i64 0, .int .i64 0, .int .i64 0, .slice none 0 0]) (t := 28) ?hr ?_; (case hd => rfl); (case hg => rfl); (case hr => (go_simp; done)); intro gb100002 hg w8 hbox hb; have n0_ := Aside0.mk (Kd.R_below HO1_3.out hb); have n1_ := Aside0.mk (IsS100.below HI0.out hb); have n2_ := Aside0.mk (blk_below BK100001.out hb); have n3_ := Aside0.mk (Kept.below (S := (fun k_ => (P1_3_ k_) ∨ k_ = g)) HK.out hb); have n4_ := Aside0.mk (below_step HB.out hb); have n5_ := Aside0.mk (hbox); have n6_ := Aside0.mk (by rw [hg]; exact HK.out.1 : w.heap.size ≤ gb100002); have n7_ := Aside0.mk ((by rw [hg]; exact (below_size HB.out) : w0.heap.size ≤ gb100002)); have n8_ := Aside0.mk ((by rw [hg]; exact Nat.ne_of_lt (blk_lt BK100001.out) : gb100001 ≠ gb100002)); have n9_ := Aside0.mk ((by rw [hg]; exact Nat.ne_of_gt (blk_lt BK100001.out) : gb100002 ≠ gb100001)); have n10_ := Aside0.mk ((by rw [hg]; exact Nat.ne_of_lt (IsS100.lt (show IsS100 w0 _ g s0_0 s0_1 from by exact HI0.out)) : g ≠ gb100002)); have n11_ := Aside0.mk ((by rw [hg]; exact Nat.ne_of_gt (IsS100.lt (show IsS100 w0 _ g s0_0 s0_1 from by exact HI0.out)) : gb100002 ≠ g)); clear HO1_3; clear HI0; clear BK100001; clear HK; clear HB; have HO1_3 := n0_; have HI0 := n1_; have BK100001 := n2_; have HK := n3_; have HB := n4_; have BK100002 := n5_; have GW100002 := n6_; have GE100002 := n7_; have NB100001_100002 := n8_; have NB100002_100001 := n9_; have NB0_100002 := n10_; have NB100002_0 := n11_; clear n0_ n1_ n2_ n3_ n4_ n5_ n6_ n7_ n8_ n9_ n10_ n11_; clear hb hbox hg) | ((with_reducible refine gate_callee (f := 82) rfl ?_); refine goesL_ (some 6) rfl rfl Try.func82 (by kernel_rfl) rfl #[.pointer (some ⟨g, 0, none⟩), .int .i64 40] rfl (by (try simp only [List.map_toArray, List.map_cons, List.map_nil]); rfl) ?_; (with_reducible refine (spec_reader_pick.calls k g s0_0 s0_1 40 t100003 t100004 w0 _ ?side1 ?side2 A3.out).mono ?_); (case side1 => repeat (with_reducible exact HI0.out)); (case side2 => repeat (with_reducible exact HB.out)); rintro e w9 ⟨rfl, hi, hb, hk⟩; refine ⟨_, rfl, ?_⟩; have n0_ := Aside0.mk (Kd.R_mono (Kd.R_keep (IsS100.apart (show IsS100 w0 _ g s0_0 s0_1 from by exact HI0.out) HO1_3.out (by decide)) hk (fun _ h => h.2)) (fun _ h => h.1)); have n1_ := Aside0.mk (KeepBut.blk hk (g' := gb100001) (o := .cells #[.int .i64 a1_0, .int .i64 a1_1, .int .i64 a1_2, .slice Ao6 l1_3.length co6] 28 (0, 0)) BK100001.out NB100001_0.out (by simp)); have n2_ := Aside0.mk (KeepBut.blk hk (g' := gb100002) (o := .cells #[.int .i64 0, .int .i64 0, .int .i64 0, .slice none 0 0] 28 (0, 0)) BK100002.out NB100002_0.out (by simp)); have n3_ := Aside0.mk (Kept.of_keep (S := (fun k_ => (P1_3_ k_) ∨ k_ = g)) HK.out hk (.inl (.inr rfl))); have n4_ := Aside0.mk (hb); have n5_ := Aside0.mk (hi); clear HO1_3; clear BK100001; clear BK100002; clear HK; clear HB; clear HI0; have HO1_3 := n0_; have BK100001 := n1_; have BK100002 := n2_; have HK := n3_; have HB := n4_; have HI0 := n5_; clear n0_ n1_ n2_ n3_ n4_ n5_; (try clear hb); (try clear hk); (try clear hi); have hnb10 := NB100001_100002.out; have hnc10 := NB100002_100001.out; have hnb11 := NB100001_0.out; have hnc11 := NB0_100001.out; have hcz12_0 : w9.cell? ⟨gb100001, 0, none⟩ = some (.int .i64 a1_0) := (blk_cell BK100001.out 0).trans rfl; have hcz12_1 : w9.cell? ⟨gb100001, 1, none⟩ = some (.int .i64 a1_1) := (blk_cell BK100001.out 1).trans rfl; have hcz12_2 : w9.cell? ⟨gb100001, 2, none⟩ = some (.int .i64 a1_2) := (blk_cell BK100001.out 2).trans rfl; have hcz12_3 : w9.cell? ⟨gb100001, 3, none⟩ = some (.slice Ao6 l1_3.length co6) := (blk_cell BK100001.out 3).trans rfl; have hfz12_0 := blk_frozen BK100001.out 0; have hfz12_1 := blk_frozen BK100001.out 1; have hfz12_2 := blk_frozen BK100001.out 2; have hfz12_3 := blk_frozen BK100001.out 3) | ((with_reducible refine gate_dst (N := 13) rfl ?_); refine Kd.R_lit (Kd.int .i64) _ 3 ?hg (N := 13) ?hd (xs := ([0, 17, wrap64 (a1_0 + 1)] : List Int)) (inner := [.int .i64 0, .int .i64 17, .int .i64 (wrap64 (a1_0 + 1))]) (ok := fun _ => True) (okp := fun _ => True) ?hr ?hp (fun _ hk => hk) trivial (Below.refl _ _) (Nat.le_refl _) (by simp) ?_; (case hd => rfl); (case hg => rfl); (case hr => (go_simp; done)); (case hp => exact (Reps.one (show Kd.M (Kd.int .i64) _ _ _ 0 [.int .i64 0] from rfl) (Reps.one (show Kd.M (Kd.int .i64) _ _ _ 17 [.int .i64 17] from rfl) (Reps.one (show Kd.M (Kd.int .i64) _ _ _ (wrap64 (a1_0 + 1)) [.int .i64 (wrap64 (a1_0 + 1))] from rfl) (Reps.none _ _))))); intro v100006 w13 ho14 hb hg_ hnew_; clear hg_ hnew_; (rw [← Ny100005.out] at ho14); have n0_ := Aside0.mk (Kd.R_elder' HO1_3.out (Kd.R_base ho14) hb); have n1_ := Aside0.mk (Kd.R_lower (Kd.R_new' (Kd.R_newM (M := fun k_ => (P1_3_ k_ ∨ w.heap.size ≤ k_)) ho14 HK.out.1 (fun k_ h_ => .inr h_)) (Kd.R_lt HO1_3.out)) (below_size HB.out)); have n2_ := Aside0.mk (IsS100.below HI0.out hb); have n3_ := Aside0.mk (blk_below BK100001.out hb); have n4_ := Aside0.mk (blk_below BK100002.out hb); have n5_ := Aside0.mk (Kept.below (S := (fun k_ => (P1_3_ k_) ∨ k_ = g)) HK.out hb); have n6_ := Aside0.mk (below_step HB.out hb); clear HO1_3; clear HI0; clear BK100001; clear BK100002; clear HK; clear HB; have HO1_3 := n0_; have HO100007 := n1_; have HI0 := n2_; have BK100001 := n3_; have BK100002 := n4_; have HK := n5_; have HB := n6_; clear n0_ n1_ n2_ n3_ n4_ n5_ n6_; clear hb ho14; obtain ⟨Ao15, co15, eo15⟩ := Kd.R_slice HO100007.out; subst eo15) | ((with_reducible refine gate_callee (f := 73) rfl ?_); refine goesL_ (some 14) rfl rfl Try.func73 (by kernel_rfl) rfl #[.pointer (some ⟨g, 0, none⟩), .slice Ao15 y100005.length co15] rfl (by (try simp only [List.map_toArray, List.map_cons, List.map_nil]); rfl) ?_; (with_reducible refine (spec_reader_one.calls k g s0_0 t100004 _ _ y100005 t100008 t100009 w0 _ ?side1 ?side2 ?side3 ?side4 ?side5 A5.out).mono ?_); (case side1 => repeat (with_reducible exact HI0.out)); (case side2 => repeat (with_reducible exact HB.out)); (case side3 => repeat (exact (Kd.R_reads' HO100007.out).2.2)); (case side4 => exact (Kd.R_reads' HO100007.out).2.1); (case side5 => exact far_slice (IsS100.own_ne HI0.out HO100007.out (by decide))); rintro e w16 ⟨rfl, hi, hb, hk⟩; refine ⟨_, rfl, ?_⟩; have n0_ := Aside0.mk (Kd.R_mono (Kd.R_keep (IsS100.apart (show IsS100 w0 _ g s0_0 t100004 from by exact HI0.out) HO1_3.out (by decide)) hk (fun _ h => h.2)) (fun _ h => h.1)); have n1_ := Aside0.mk (KeepBut.blk hk (g' := gb100001) (o := .cells #[.int .i64 a1_0, .int .i64 a1_1, .int .i64 a1_2, .slice Ao6 l1_3.length co6] 28 (0, 0)) BK100001.out NB100001_0.out (by simp)); have n2_ := Aside0.mk (KeepBut.blk hk (g' := gb100002) (o := .cells #[.int .i64 0, .int .i64 0, .int .i64 0, .slice none 0 0] 28 (0, 0)) BK100002.out NB100002_0.out (by simp)); have n3_ := Aside0.mk (Kd.R_mono (Kd.R_keep (IsS100.apart (show IsS100 w0 _ g s0_0 t100004 from by exact HI0.out) HO100007.out (by decide)) hk (fun _ h => h.2)) (fun _ h => h.1)); have n4_ := Aside0.mk (Kept.of_keep (S := (fun k_ => (P1_3_ k_) ∨ k_ = g)) HK.out hk (.inl (.inr rfl))); have n5_ := Aside0.mk (hb); have n6_ := Aside0.mk (hi); clear HO1_3; clear BK100001; clear BK100002; clear HO100007; clear HK; clear HB; clear HI0; have HO1_3 := n0_; have BK100001 := n1_; have BK100002 := n2_; have HO100007 := n3_; have HK := n4_; have HB := n5_; have HI0 := n6_; clear n0_ n1_ n2_ n3_ n4_ n5_ n6_; (try clear hb); (try clear hk); (try clear hi); have hcz17_0 : w16.cell? ⟨gb100001, 0, none⟩ = some (.int .i64 a1_0) := (blk_cell BK100001.out 0).trans rfl; have hcz17_1 : w16.cell? ⟨gb100001, 1, none⟩ = some (.int .i64 a1_1) := (blk_cell BK100001.out 1).trans rfl; have hcz17_2 : w16.cell? ⟨gb100001, 2, none⟩ = some (.int .i64 a1_2) := (blk_cell BK100001.out 2).trans rfl; have hcz17_3 : w16.cell? ⟨gb100001, 3, none⟩ = some (.slice Ao6 l1_3.length co6) := (blk_cell BK100001.out 3).trans rfl; have hfz17_0 := blk_frozen BK100001.out 0; have hfz17_1 := blk_frozen BK100001.out 1; have hfz17_2 := blk_frozen BK100001.out 2; have hfz17_3 := blk_frozen BK100001.out 3; have hnb18 := NB100002_0.out; have hnc18 := NB0_100002.out; have hcz19_0 : w16.cell? ⟨gb100002, 0, none⟩ = some (.int .i64 0) := (blk_cell BK100002.out 0).trans rfl; have hcz19_1 : w16.cell? ⟨gb100002, 1, none⟩ = some (.int .i64 0) := (blk_cell BK100002.out 1).trans rfl; have hcz19_2 : w16.cell? ⟨gb100002, 2, none⟩ = some (.int .i64 0) := (blk_cell BK100002.out 2).trans rfl; have hcz19_3 : w16.cell? ⟨gb100002, 3, none⟩ = some (.slice none 0 0) := (blk_cell BK100002.out 3).trans rfl; have hfz19_0 := blk_frozen BK100002.out 0; have hfz19_1 := blk_frozen BK100002.out 1; have hfz19_2 := blk_frozen BK100002.out 2; have hfz19_3 := blk_frozen BK100002.out 3))
    refine bodyPost_ret (results_cell_row rfl _ _ gb100002 28 #[.int .i64 t100008, .int .i64 a1_1, .int .i64 a1_2, .slice Ao6 l1_3.length co6] (0, 0) _ rfl (by refine blk_put (cs := #[.int .i64 t100008, .int .i64 a1_1, .int .i64 a1_2, .slice none 0 0]) ?_ 3 _ rfl; (with_reducible repeat (first | refine blk_drewN ?_ _ | refine blk_drew ?_ | refine blk_alloc ?_ _)); refine blk_put (cs := #[.int .i64 t100008, .int .i64 a1_1, .int .i64 0, .slice none 0 0]) ?_ 2 _ rfl; (with_reducible repeat (first | refine blk_drewN ?_ _ | refine blk_drew ?_ | refine blk_alloc ?_ _)); refine blk_put (cs := #[.int .i64 t100008, .int .i64 0, .int .i64 0, .slice none 0 0]) ?_ 1 _ rfl; (with_reducible repeat (first | refine blk_drewN ?_ _ | refine blk_drew ?_ | refine blk_alloc ?_ _)); refine blk_put (cs := #[.int .i64 0, .int .i64 0, .int .i64 0, .slice none 0 0]) ?_ 0 _ rfl; (with_reducible repeat (first | refine blk_drewN ?_ _ | refine blk_drew ?_ | refine blk_alloc ?_ _)); refine blk_far ?_ NB100002_100001.out _; (with_reducible repeat (first | refine blk_drewN ?_ _ | refine blk_drew ?_ | refine blk_alloc ?_ _)); exact BK100002.out) Try.underlying28 rfl (by kernel_rfl)) rfl ?_
    exact ⟨_, by rfl, Kd.Q_of_R (by exact Kd.R_mono (Kd.R_far (p := ⟨gb100002, 3, none⟩) (Kd.R_far (p := ⟨gb100002, 2, none⟩) (Kd.R_far (p := ⟨gb100002, 1, none⟩) (Kd.R_far (p := ⟨gb100002, 0, none⟩) (Kd.R_far (p := ⟨gb100001, 0, none⟩) (Kd.R_types (Kd.R_types HO1_3.out BK100001.out (by decide)) BK100002.out (by decide)) (fun _ hk => hk.1.2) (.int .i64 t100008)) (fun _ hk => hk.2) (.int .i64 t100008)) (fun _ hk => hk.2) (.int .i64 a1_1)) (fun _ hk => hk.2) (.int .i64 a1_2)) (fun _ hk => hk.2) (.slice Ao6 l1_3.length co6)) (fun _ hk => hk.1.1.1)), by repeat (with_reducible first | exact HI0.out | refine IsS100.far ?_ NB0_100001.out _ | refine IsS100.far ?_ NB0_100002.out _), by repeat (with_reducible first | exact HB.out | refine below_set ?_ GE100001.out | refine below_set ?_ GE100002.out), by repeat ((with_reducible first | exact HK.out | refine Kept.setCell ?_ (.inr GW100001.out) _ | refine Kept.setCell ?_ (.inr GW100002.out) _))⟩
  · rw [if_neg c4] at H
    have c4b0 : (t100003 == 0) = false := beq_eq_false_iff_ne.mpr c4
    have c4b1 : (t100003 != 0) = true := bne_iff_ne.mpr c4
    by_cases c20 : t100003 = 1
    · rw [if_pos c20] at H
      have c20b0 : (t100003 == 1) = true := beq_iff_eq.mpr c20
      have c20b1 : (t100003 != 1) = false := bne_eq_false_iff_eq.mpr c20
      clear c20
      by_cases c21 : 1 ≤ (l1_3.length : Int)
      · rw [if_pos c21] at H
        have c21b0 := eq_true c21
        have c21b1 : decide (1 ≤ (l1_3.length : Int)) = true := decide_eq_true c21
        clear c21
        obtain ⟨y100010, hy100010⟩ : ∃ y_ : List Int, y_ = (l1_3.drop (1 : Int).toNat) := ⟨_, rfl⟩
        replace H : (some (a1_0, a1_1, a1_2, y100010, t100004)) = some (r1, r2, r3, r4, r5) := by (rw [hy100010]; with_reducible exact H)
        have Ny100010 := Aside0.mk hy100010
        clear hy100010
        simp only [Option.some.injEq, Prod.mk.injEq] at H
        obtain ⟨rfl, rfl, rfl, rfl, rfl⟩ := H
        obtain ⟨Ao22, co22, eo22⟩ := Kd.R_slice HO1_3.out
        subst eo22
        go_enter Try.func99, Try.ntmps99
        go_wp2_with (first | ((with_reducible refine gate_dst (N := 3) rfl ?_); refine box_event ?hg (N := 3) ?hd (cs := #[.int .i64 a1_0, .int .i64 a1_1, .int .i64 a1_2, .slice Ao22 l1_3.length co22]) (t := 28) ?hr ?_; (case hd => rfl); (case hg => rfl); (case hr => (go_simp; done)); intro gb100001 hg w23 hbox hb; have n0_ := Aside0.mk (Kd.R_below HO1_3.out hb); have n1_ := Aside0.mk (IsS100.below HI0.out hb); have n2_ := Aside0.mk (Kept.below (S := (fun k_ => (P1_3_ k_) ∨ k_ = g)) HK.out hb); have n3_ := Aside0.mk (below_step HB.out hb); have n4_ := Aside0.mk (hbox); have n5_ := Aside0.mk (by rw [hg]; exact HK.out.1 : w.heap.size ≤ gb100001); have n6_ := Aside0.mk ((by rw [hg]; exact (below_size HB.out) : w0.heap.size ≤ gb100001)); have n7_ := Aside0.mk ((by rw [hg]; exact Nat.ne_of_lt (IsS100.lt (show IsS100 w0 _ g s0_0 s0_1 from by exact HI0.out)) : g ≠ gb100001)); have n8_ := Aside0.mk ((by rw [hg]; exact Nat.ne_of_gt (IsS100.lt (show IsS100 w0 _ g s0_0 s0_1 from by exact HI0.out)) : gb100001 ≠ g)); clear HO1_3; clear HI0; clear HK; clear HB; have HO1_3 := n0_; have HI0 := n1_; have HK := n2_; have HB := n3_; have BK100001 := n4_; have GW100001 := n5_; have GE100001 := n6_; have NB0_100001 := n7_; have NB100001_0 := n8_; clear n0_ n1_ n2_ n3_ n4_ n5_ n6_ n7_ n8_; clear hb hbox hg) | ((with_reducible refine gate_dst (N := 4) rfl ?_); refine box_event ?hg (N := 4) ?hd (cs := #[.int .i64 0, .int .i64 0, .int .i64 0, .slice none 0 0]) (t := 28) ?hr ?_; (case hd => rfl); (case hg => rfl); (case hr => (go_simp; done)); intro gb100002 hg w24 hbox hb; have n0_ := Aside0.mk (Kd.R_below HO1_3.out hb); have n1_ := Aside0.mk (IsS100.below HI0.out hb); have n2_ := Aside0.mk (blk_below BK100001.out hb); have n3_ := Aside0.mk (Kept.below (S := (fun k_ => (P1_3_ k_) ∨ k_ = g)) HK.out hb); have n4_ := Aside0.mk (below_step HB.out hb); have n5_ := Aside0.mk (hbox); have n6_ := Aside0.mk (by rw [hg]; exact HK.out.1 : w.heap.size ≤ gb100002); have n7_ := Aside0.mk ((by rw [hg]; exact (below_size HB.out) : w0.heap.size ≤ gb100002)); have n8_ := Aside0.mk ((by rw [hg]; exact Nat.ne_of_lt (blk_lt BK100001.out) : gb100001 ≠ gb100002)); have n9_ := Aside0.mk ((by rw [hg]; exact Nat.ne_of_gt (blk_lt BK100001.out) : gb100002 ≠ gb100001)); have n10_ := Aside0.mk ((by rw [hg]; exact Nat.ne_of_lt (IsS100.lt (show IsS100 w0 _ g s0_0 s0_1 from by exact HI0.out)) : g ≠ gb100002)); have n11_ := Aside0.mk ((by rw [hg]; exact Nat.ne_of_gt (IsS100.lt (show IsS100 w0 _ g s0_0 s0_1 from by exact HI0.out)) : gb100002 ≠ g)); clear HO1_3; clear HI0; clear BK100001; clear HK; clear HB; have HO1_3 := n0_; have HI0 := n1_; have BK100001 := n2_; have HK := n3_; have HB := n4_; have BK100002 := n5_; have GW100002 := n6_; have GE100002 := n7_; have NB100001_100002 := n8_; have NB100002_100001 := n9_; have NB0_100002 := n10_; have NB100002_0 := n11_; clear n0_ n1_ n2_ n3_ n4_ n5_ n6_ n7_ n8_ n9_ n10_ n11_; clear hb hbox hg) | ((with_reducible refine gate_callee (f := 82) rfl ?_); refine goesL_ (some 6) rfl rfl Try.func82 (by kernel_rfl) rfl #[.pointer (some ⟨g, 0, none⟩), .int .i64 40] rfl (by (try simp only [List.map_toArray, List.map_cons, List.map_nil]); rfl) ?_; (with_reducible refine (spec_reader_pick.calls k g s0_0 s0_1 40 t100003 t100004 w0 _ ?side1 ?side2 A3.out).mono ?_); (case side1 => repeat (with_reducible exact HI0.out)); (case side2 => repeat (with_reducible exact HB.out)); rintro e w25 ⟨rfl, hi, hb, hk⟩; refine ⟨_, rfl, ?_⟩; have n0_ := Aside0.mk (Kd.R_mono (Kd.R_keep (IsS100.apart (show IsS100 w0 _ g s0_0 s0_1 from by exact HI0.out) HO1_3.out (by decide)) hk (fun _ h => h.2)) (fun _ h => h.1)); have n1_ := Aside0.mk (KeepBut.blk hk (g' := gb100001) (o := .cells #[.int .i64 a1_0, .int .i64 a1_1, .int .i64 a1_2, .slice Ao22 l1_3.length co22] 28 (0, 0)) BK100001.out NB100001_0.out (by simp)); have n2_ := Aside0.mk (KeepBut.blk hk (g' := gb100002) (o := .cells #[.int .i64 0, .int .i64 0, .int .i64 0, .slice none 0 0] 28 (0, 0)) BK100002.out NB100002_0.out (by simp)); have n3_ := Aside0.mk (Kept.of_keep (S := (fun k_ => (P1_3_ k_) ∨ k_ = g)) HK.out hk (.inl (.inr rfl))); have n4_ := Aside0.mk (hb); have n5_ := Aside0.mk (hi); clear HO1_3; clear BK100001; clear BK100002; clear HK; clear HB; clear HI0; have HO1_3 := n0_; have BK100001 := n1_; have BK100002 := n2_; have HK := n3_; have HB := n4_; have HI0 := n5_; clear n0_ n1_ n2_ n3_ n4_ n5_; (try clear hb); (try clear hk); (try clear hi); have hnb26 := NB100001_100002.out; have hnc26 := NB100002_100001.out; have hnb27 := NB100001_0.out; have hnc27 := NB0_100001.out; have hcz28_0 : w25.cell? ⟨gb100001, 0, none⟩ = some (.int .i64 a1_0) := (blk_cell BK100001.out 0).trans rfl; have hcz28_1 : w25.cell? ⟨gb100001, 1, none⟩ = some (.int .i64 a1_1) := (blk_cell BK100001.out 1).trans rfl; have hcz28_2 : w25.cell? ⟨gb100001, 2, none⟩ = some (.int .i64 a1_2) := (blk_cell BK100001.out 2).trans rfl; have hcz28_3 : w25.cell? ⟨gb100001, 3, none⟩ = some (.slice Ao22 l1_3.length co22) := (blk_cell BK100001.out 3).trans rfl; have hfz28_0 := blk_frozen BK100001.out 0; have hfz28_1 := blk_frozen BK100001.out 1; have hfz28_2 := blk_frozen BK100001.out 2; have hfz28_3 := blk_frozen BK100001.out 3; have q29 : (1 : Int) ≤ ((l1_3.length : Int) : Int) := of_decide_eq_true (by (with_reducible assumption)); obtain ⟨i029, hi029, _, hsz29, _⟩ := info_parts info3; have hcut29 := cut_from (P := Try.prog) 22 3 .i64 Try.underlying22 hi029 1 hsz29 Ao22 l1_3.length co22 1 (by omega) q29; have hr29 := Kd.Q_drop (k := (1 : Int).toNat) (Kd.Q_of_R HO1_3.out) (by omega); obtain ⟨A29, hA29⟩ : ∃ A1, A1 = (if co22 = (1 : Int).toNat then Ao22 else (Ao22 : Option Addr).map (·.add ((1 : Int).toNat * 1))) := ⟨_, rfl⟩; obtain ⟨c29, hc29⟩ : ∃ c1, c1 = co22 - (1 : Int).toNat := ⟨_, rfl⟩; have hy29 : y100010.length = l1_3.length - (1 : Int).toNat := (by rw [Ny100010.out, List.length_drop]); rw [← Ny100010.out] at hr29; rw [← hy29, ← hA29, ← hc29] at hcut29; replace hr29 : Kd.Q (Kd.int .i64) 3 w25 w0.heap.size (fun k_ => (P1_3_ k_ ∨ w.heap.size ≤ k_)) (.slice A29 y100010.length c29) y100010 := (by rw [hA29, hc29, hy29]; exact hr29); have HE29 : Aside0 ((Value.slice A29 y100010.length c29).ownBlock = (.slice Ao22 l1_3.length co22 : Value).ownBlock) := ⟨by rw [hA29]; split <;> (cases (Ao22 : Option Addr) <;> rfl)⟩; clear hy29 hi029 hsz29 HO1_3 hA29 hc29; have HO100012 := Aside0.mk hr29; clear hr29; replace q29 := eq_true q29; have hnb30 := NB100002_0.out; have hnc30 := NB0_100002.out; have hcz31_0 : w25.cell? ⟨gb100002, 0, none⟩ = some (.int .i64 0) := (blk_cell BK100002.out 0).trans rfl; have hcz31_1 : w25.cell? ⟨gb100002, 1, none⟩ = some (.int .i64 0) := (blk_cell BK100002.out 1).trans rfl; have hcz31_2 : w25.cell? ⟨gb100002, 2, none⟩ = some (.int .i64 0) := (blk_cell BK100002.out 2).trans rfl; have hcz31_3 : w25.cell? ⟨gb100002, 3, none⟩ = some (.slice none 0 0) := (blk_cell BK100002.out 3).trans rfl; have hfz31_0 := blk_frozen BK100002.out 0; have hfz31_1 := blk_frozen BK100002.out 1; have hfz31_2 := blk_frozen BK100002.out 2; have hfz31_3 := blk_frozen BK100002.out 3))
        refine bodyPost_ret (results_cell_row rfl _ _ gb100002 28 #[.int .i64 a1_0, .int .i64 a1_1, .int .i64 a1_2, .slice A29 y100010.length c29] (0, 0) _ rfl (by refine blk_put (cs := #[.int .i64 a1_0, .int .i64 a1_1, .int .i64 a1_2, .slice none 0 0]) ?_ 3 _ rfl; (with_reducible repeat (first | refine blk_drewN ?_ _ | refine blk_drew ?_ | refine blk_alloc ?_ _)); refine blk_put (cs := #[.int .i64 a1_0, .int .i64 a1_1, .int .i64 0, .slice none 0 0]) ?_ 2 _ rfl; (with_reducible repeat (first | refine blk_drewN ?_ _ | refine blk_drew ?_ | refine blk_alloc ?_ _)); refine blk_put (cs := #[.int .i64 a1_0, .int .i64 0, .int .i64 0, .slice none 0 0]) ?_ 1 _ rfl; (with_reducible repeat (first | refine blk_drewN ?_ _ | refine blk_drew ?_ | refine blk_alloc ?_ _)); refine blk_put (cs := #[.int .i64 0, .int .i64 0, .int .i64 0, .slice none 0 0]) ?_ 0 _ rfl; (with_reducible repeat (first | refine blk_drewN ?_ _ | refine blk_drew ?_ | refine blk_alloc ?_ _)); refine blk_far ?_ NB100002_100001.out _; (with_reducible repeat (first | refine blk_drewN ?_ _ | refine blk_drew ?_ | refine blk_alloc ?_ _)); exact BK100002.out) Try.underlying28 rfl (by kernel_rfl)) rfl ?_
        exact ⟨_, by rfl, by (with_reducible repeat (first | apply Kd.Q_alloc | apply Kd.Q_drewN | apply Kd.Q_drew)); exact Kd.Q_mono (Kd.Q_far (p := ⟨gb100002, 3, none⟩) (Kd.Q_far (p := ⟨gb100002, 2, none⟩) (Kd.Q_far (p := ⟨gb100002, 1, none⟩) (Kd.Q_far (p := ⟨gb100002, 0, none⟩) (Kd.Q_far (p := ⟨gb100001, 3, none⟩) (Kd.Q_types (Kd.Q_types HO100012.out BK100001.out (by decide)) BK100002.out (by decide)) (fun _ hk => hk.1.2) (.slice A29 y100010.length c29)) (fun _ hk => hk.2) (.int .i64 a1_0)) (fun _ hk => hk.2) (.int .i64 a1_1)) (fun _ hk => hk.2) (.int .i64 a1_2)) (fun _ hk => hk.2) (.slice A29 y100010.length c29)) (fun _ hk => hk.1.1), by repeat (with_reducible first | exact HI0.out | refine IsS100.far ?_ NB0_100001.out _ | refine IsS100.far ?_ NB0_100002.out _), by repeat (with_reducible first | exact HB.out | refine below_set ?_ GE100001.out | refine below_set ?_ GE100002.out), by repeat ((with_reducible first | exact HK.out | refine Kept.setCell ?_ (.inr GW100001.out) _ | refine Kept.setCell ?_ (.inr GW100002.out) _))⟩
      · rw [if_neg c21] at H
        exact absurd H (by simp)
    · rw [if_neg c20] at H
      have c20b0 : (t100003 == 1) = false := beq_eq_false_iff_ne.mpr c20
      have c20b1 : (t100003 != 1) = true := bne_iff_ne.mpr c20
      by_cases c32 : t100003 = 2
      · rw [if_pos c32] at H
        have c32b0 : (t100003 == 2) = true := beq_iff_eq.mpr c32
        have c32b1 : (t100003 != 2) = false := bne_eq_false_iff_eq.mpr c32
        clear c32
        obtain ⟨y100013, hy100013⟩ : ∃ y_ : List Int, y_ = (([(-1), 256] : List Int)) := ⟨_, rfl⟩
        replace H : ((spec_reader_one.f k s0_0 t100004 y100013).bind fun bt100016 => (if 0 < (l1_3.length : Int) then (some (a1_0, a1_1, a1_2, (l1_3.set (0 : Int).toNat bt100016.1), bt100016.2)) else none)) = some (r1, r2, r3, r4, r5) := by (rw [hy100013]; with_reducible exact H)
        have Ny100013 := Aside0.mk hy100013
        clear hy100013
        replace H := Option.bind_eq_some_iff.mp H
        obtain ⟨⟨t100016, t100017⟩, A330, H⟩ := H
        replace H : (if 0 < (l1_3.length : Int) then (some (a1_0, a1_1, a1_2, (l1_3.set (0 : Int).toNat t100016), t100017)) else none) = some (r1, r2, r3, r4, r5) := H
        have A33 := Aside0.mk A330
        clear A330
        by_cases c34 : 0 < (l1_3.length : Int)
        · rw [if_pos c34] at H
          have c34b0 : decide (0 < (l1_3.length : Int)) = true := decide_eq_true c34
          have c34b1 : decide (0 < l1_3.length) = true := decide_eq_true (by omega)
          clear c34
          obtain ⟨y100018, hy100018⟩ : ∃ y_ : List Int, y_ = (l1_3.set (0 : Int).toNat t100016) := ⟨_, rfl⟩
          replace H : (some (a1_0, a1_1, a1_2, y100018, t100017)) = some (r1, r2, r3, r4, r5) := by (rw [hy100018]; with_reducible exact H)
          have Ny100018 := Aside0.mk hy100018
          clear hy100018
          simp only [Option.some.injEq, Prod.mk.injEq] at H
          obtain ⟨rfl, rfl, rfl, rfl, rfl⟩ := H
          obtain ⟨Ao36, co36, eo36⟩ := Kd.R_slice HO1_3.out
          subst eo36
          go_enter Try.func99, Try.ntmps99
          try go_wp2_with (first | ((with_reducible refine gate_dst (N := 3) rfl ?_); refine box_event ?hg (N := 3) ?hd (cs := #[.int .i64 a1_0, .int .i64 a1_1, .int .i64 a1_2, .slice Ao36 l1_3.length co36]) (t := 28) ?hr ?_; (case hd => rfl); (case hg => rfl); (case hr => (go_simp; done)); intro gb100001 hg w37 hbox hb; have n0_ := Aside0.mk (Kd.R_below HO1_3.out hb); have n1_ := Aside0.mk (IsS100.below HI0.out hb); have n2_ := Aside0.mk (Kept.below (S := (fun k_ => (P1_3_ k_) ∨ k_ = g)) HK.out hb); have n3_ := Aside0.mk (below_step HB.out hb); have n4_ := Aside0.mk (hbox); have n5_ := Aside0.mk (by rw [hg]; exact HK.out.1 : w.heap.size ≤ gb100001); have n6_ := Aside0.mk ((by rw [hg]; exact (below_size HB.out) : w0.heap.size ≤ gb100001)); have n7_ := Aside0.mk ((by rw [hg]; exact Nat.ne_of_lt (IsS100.lt (show IsS100 w0 _ g s0_0 s0_1 from by exact HI0.out)) : g ≠ gb100001)); have n8_ := Aside0.mk ((by rw [hg]; exact Nat.ne_of_gt (IsS100.lt (show IsS100 w0 _ g s0_0 s0_1 from by exact HI0.out)) : gb100001 ≠ g)); clear HO1_3; clear HI0; clear HK; clear HB; have HO1_3 := n0_; have HI0 := n1_; have HK := n2_; have HB := n3_; have BK100001 := n4_; have GW100001 := n5_; have GE100001 := n6_; have NB0_100001 := n7_; have NB100001_0 := n8_; clear n0_ n1_ n2_ n3_ n4_ n5_ n6_ n7_ n8_; clear hb hbox hg) | ((with_reducible refine gate_dst (N := 4) rfl ?_); refine box_event ?hg (N := 4) ?hd (cs := #[.int .i64 0, .int .i64 0, .int .i64 0, .slice none 0 0]) (t := 28) ?hr ?_; (case hd => rfl); (case hg => rfl); (case hr => (go_simp; done)); intro gb100002 hg w38 hbox hb; have n0_ := Aside0.mk (Kd.R_below HO1_3.out hb); have n1_ := Aside0.mk (IsS100.below HI0.out hb); have n2_ := Aside0.mk (blk_below BK100001.out hb); have n3_ := Aside0.mk (Kept.below (S := (fun k_ => (P1_3_ k_) ∨ k_ = g)) HK.out hb); have n4_ := Aside0.mk (below_step HB.out hb); have n5_ := Aside0.mk (hbox); have n6_ := Aside0.mk (by rw [hg]; exact HK.out.1 : w.heap.size ≤ gb100002); have n7_ := Aside0.mk ((by rw [hg]; exact (below_size HB.out) : w0.heap.size ≤ gb100002)); have n8_ := Aside0.mk ((by rw [hg]; exact Nat.ne_of_lt (blk_lt BK100001.out) : gb100001 ≠ gb100002)); have n9_ := Aside0.mk ((by rw [hg]; exact Nat.ne_of_gt (blk_lt BK100001.out) : gb100002 ≠ gb100001)); have n10_ := Aside0.mk ((by rw [hg]; exact Nat.ne_of_lt (IsS100.lt (show IsS100 w0 _ g s0_0 s0_1 from by exact HI0.out)) : g ≠ gb100002)); have n11_ := Aside0.mk ((by rw [hg]; exact Nat.ne_of_gt (IsS100.lt (show IsS100 w0 _ g s0_0 s0_1 from by exact HI0.out)) : gb100002 ≠ g)); clear HO1_3; clear HI0; clear BK100001; clear HK; clear HB; have HO1_3 := n0_; have HI0 := n1_; have BK100001 := n2_; have HK := n3_; have HB := n4_; have BK100002 := n5_; have GW100002 := n6_; have GE100002 := n7_; have NB100001_100002 := n8_; have NB100002_100001 := n9_; have NB0_100002 := n10_; have NB100002_0 := n11_; clear n0_ n1_ n2_ n3_ n4_ n5_ n6_ n7_ n8_ n9_ n10_ n11_; clear hb hbox hg) | ((with_reducible refine gate_callee (f := 82) rfl ?_); refine goesL_ (some 6) rfl rfl Try.func82 (by kernel_rfl) rfl #[.pointer (some ⟨g, 0, none⟩), .int .i64 40] rfl (by (try simp only [List.map_toArray, List.map_cons, List.map_nil]); rfl) ?_; (with_reducible refine (spec_reader_pick.calls k g s0_0 s0_1 40 t100003 t100004 w0 _ ?side1 ?side2 A3.out).mono ?_); (case side1 => repeat (with_reducible exact HI0.out)); (case side2 => repeat (with_reducible exact HB.out)); rintro e w39 ⟨rfl, hi, hb, hk⟩; refine ⟨_, rfl, ?_⟩; have n0_ := Aside0.mk (Kd.R_mono (Kd.R_keep (IsS100.apart (show IsS100 w0 _ g s0_0 s0_1 from by exact HI0.out) HO1_3.out (by decide)) hk (fun _ h => h.2)) (fun _ h => h.1)); have n1_ := Aside0.mk (KeepBut.blk hk (g' := gb100001) (o := .cells #[.int .i64 a1_0, .int .i64 a1_1, .int .i64 a1_2, .slice Ao36 l1_3.length co36] 28 (0, 0)) BK100001.out NB100001_0.out (by simp)); have n2_ := Aside0.mk (KeepBut.blk hk (g' := gb100002) (o := .cells #[.int .i64 0, .int .i64 0, .int .i64 0, .slice none 0 0] 28 (0, 0)) BK100002.out NB100002_0.out (by simp)); have n3_ := Aside0.mk (Kept.of_keep (S := (fun k_ => (P1_3_ k_) ∨ k_ = g)) HK.out hk (.inl (.inr rfl))); have n4_ := Aside0.mk (hb); have n5_ := Aside0.mk (hi); clear HO1_3; clear BK100001; clear BK100002; clear HK; clear HB; clear HI0; have HO1_3 := n0_; have BK100001 := n1_; have BK100002 := n2_; have HK := n3_; have HB := n4_; have HI0 := n5_; clear n0_ n1_ n2_ n3_ n4_ n5_; (try clear hb); (try clear hk); (try clear hi)))
          have n0_ := Aside0.mk (Kd.R_drew HO1_3.out)
          have n1_ := Aside0.mk (blk_drew BK100001.out)
          have n2_ := Aside0.mk (blk_drew BK100002.out)
          have n3_ := Aside0.mk (IsS100.drew HI0.out)
          have n4_ := Aside0.mk (Kept.drew HK.out)
          have n5_ := Aside0.mk (below_drew1 HB.out)
          clear HO1_3 BK100001 BK100002 HI0 HK HB
          revert n0_ n1_ n2_ n3_ n4_ n5_; intro HO1_3 BK100001 BK100002 HI0 HK HB
          refine start_ (n := 7) (S := fun w' => w'.cell? ⟨gb100001, 0, none⟩ = some (.int .i64 a1_0) ∧ w'.cell? ⟨gb100001, 1, none⟩ = some (.int .i64 a1_1) ∧ w'.cell? ⟨gb100001, 2, none⟩ = some (.int .i64 a1_2) ∧ w'.cell? ⟨gb100001, 3, none⟩ = some (.slice Ao36 l1_3.length co36)) (ds := [6]) #[false, false, false, false, false, false, false] (by kernel_rfl) rfl rfl ⟨(blk_cell BK100001.out 0).trans rfl, (blk_cell BK100001.out 1).trans rfl, (blk_cell BK100001.out 2).trans rfl, (blk_cell BK100001.out 3).trans rfl⟩ (fun hHeld => ?_)
          generalize w39.drew = w40 at HO1_3 BK100001 BK100002 HI0 HK HB hHeld ⊢
          refine pure_ (i := 0) (N := some 24) (v := ?_) (a' := ?_) #[true, false, false, false, false, false, false] rfl rfl (by kernel_rfl) (fun _ _ _ h => h) (Or.inl ⟨by rfl, ?_⟩) ?_ ?_
          rotate_left
          · intro w'
            go_simp
            with_reducible rfl
          rotate_left
          · simp only [Act.put, List.setIfInBounds_toArray, List.set_cons_zero, List.set_cons_succ, i64_w, i32_w]
            rfl
          refine pure_ (i := 2) (N := some 26) (v := ?_) (a' := ?_) #[true, false, true, false, false, false, false] rfl rfl (by kernel_rfl) (fun _ _ _ h => h) (Or.inl ⟨by rfl, ?_⟩) ?_ ?_
          rotate_left
          · intro w'
            go_simp
            with_reducible rfl
          rotate_left
          · simp only [Act.put, List.setIfInBounds_toArray, List.set_cons_zero, List.set_cons_succ, i64_w, i32_w]
            rfl
          refine take_ (i := 1) (N := some 25) (v := ?_) (a' := ?_) #[true, true, true, false, false, false, false] rfl rfl (by kernel_rfl) (fun _ _ _ h => h) (Or.inl ⟨by rfl, ?_⟩) hHeld ?_ ?_
          rotate_left
          · rintro w' ⟨s0, s1, s2, s3⟩
            go_simp
            with_reducible rfl
          rotate_left
          · simp only [Act.put, List.setIfInBounds_toArray, List.set_cons_zero, List.set_cons_succ, i64_w, i32_w]
            rfl
          refine one_ (i := 3) (N := some 27) #[true, true, true, true, false, false, false] rfl rfl (by kernel_rfl) (by decide) (fun K hK => ?_)
          refine Kd.R_lit_step (Kd.int .i64) _ 3 ?hg (N := 27) ?hd (xs := ([(-1), 256] : List Int)) (inner := [.int .i64 (-1), .int .i64 256]) (ok := fun _ => True) (okp := fun _ => True) ?hr ?hp (fun _ hk => hk) trivial (Below.refl _ _) (Nat.le_refl _) (by simp) ?_; (case hd => rfl); (case hg => rfl); (case hr => (go_simp; done)); (case hp => exact (Reps.one (show Kd.M (Kd.int .i64) _ _ _ (-1) [.int .i64 (-1)] from rfl) (Reps.one (show Kd.M (Kd.int .i64) _ _ _ 256 [.int .i64 256] from rfl) (Reps.none _ _))))
          intro v100014 w41 ho42 hb hg_ hnew_
          clear hg_ hnew_
          (rw [← Ny100013.out] at ho42)
          have n0_ := Aside0.mk (Kd.R_elder' HO1_3.out (Kd.R_base ho42) hb)
          have n1_ := Aside0.mk (Kd.R_lower (Kd.R_new' (Kd.R_newM (M := fun k_ => (P1_3_ k_ ∨ w.heap.size ≤ k_)) ho42 HK.out.1 (fun k_ h_ => .inr h_)) (Kd.R_lt HO1_3.out)) (below_size HB.out))
          have n2_ := Aside0.mk (IsS100.below HI0.out hb)
          have n3_ := Aside0.mk (blk_below BK100001.out hb)
          have n4_ := Aside0.mk (blk_below BK100002.out hb)
          have n5_ := Aside0.mk (Kept.below (S := (fun k_ => (P1_3_ k_) ∨ k_ = g)) HK.out hb)
          have n6_ := Aside0.mk (below_step HB.out hb)
          clear HO1_3 HI0 BK100001 BK100002 HK HB
          revert n0_ n1_ n2_ n3_ n4_ n5_ n6_; intro HO1_3 HO100015 HI0 BK100001 BK100002 HK HB
          clear hb ho42
          obtain ⟨Ao43, co43, eo43⟩ := Kd.R_slice HO100015.out
          (subst eo43)
          refine hK.out _ _ ⟨(blk_cell BK100001.out 0).trans rfl, (blk_cell BK100001.out 1).trans rfl, (blk_cell BK100001.out 2).trans rfl, (blk_cell BK100001.out 3).trans rfl⟩ (fun hHeld => ?_)
          clear hK K
          refine norm_ (a' := ?_) ?_ ?_
          rotate_left
          · show Act.put _ (some 27) _ = _
            simp only [Act.put, List.setIfInBounds_toArray, List.set_cons_zero, List.set_cons_succ, i64_w, i32_w]
            rfl
          refine one_ (i := 4) (N := some 28) #[true, true, true, true, true, false, false] rfl rfl (by kernel_rfl) (by decide) (fun K hK => ?_)
          refine goes_ Try.func73 (by kernel_rfl) rfl #[.pointer (some ⟨g, 0, none⟩), .slice Ao43 y100013.length co43] (by rfl) rfl rfl (by (try simp only [List.map_toArray, List.map_cons, List.map_nil]); rfl) ?_
          with_reducible refine (spec_reader_one.calls k g s0_0 t100004 _ _ y100013 t100016 t100017 w0 _ ?side1 ?side2 ?side3 ?side4 ?side5 A33.out).mono ?_
          (case side1 => repeat (with_reducible exact HI0.out))
          (case side2 => repeat (with_reducible exact HB.out))
          (case side3 => repeat (exact (Kd.R_reads' HO100015.out).2.2))
          (case side4 => exact (Kd.R_reads' HO100015.out).2.1)
          (case side5 => exact far_slice (IsS100.own_ne HI0.out HO100015.out (by decide)))
          rintro e w44 ⟨rfl, hi, hb, hk⟩
          refine ⟨_, rfl, ?_⟩
          have n0_ := Aside0.mk (Kd.R_mono (Kd.R_keep (IsS100.apart (show IsS100 w0 _ g s0_0 t100004 from by exact HI0.out) HO1_3.out (by decide)) hk (fun _ h => h.2)) (fun _ h => h.1))
          have n1_ := Aside0.mk (KeepBut.blk hk (g' := gb100001) (o := .cells #[.int .i64 a1_0, .int .i64 a1_1, .int .i64 a1_2, .slice Ao36 l1_3.length co36] 28 (0, 0)) BK100001.out NB100001_0.out (by simp))
          have n2_ := Aside0.mk (KeepBut.blk hk (g' := gb100002) (o := .cells #[.int .i64 0, .int .i64 0, .int .i64 0, .slice none 0 0] 28 (0, 0)) BK100002.out NB100002_0.out (by simp))
          have n3_ := Aside0.mk (Kd.R_mono (Kd.R_keep (IsS100.apart (show IsS100 w0 _ g s0_0 t100004 from by exact HI0.out) HO100015.out (by decide)) hk (fun _ h => h.2)) (fun _ h => h.1))
          have n4_ := Aside0.mk (Kept.of_keep (S := (fun k_ => (P1_3_ k_) ∨ k_ = g)) HK.out hk (.inl (.inr rfl)))
          have n5_ := Aside0.mk (hb)
          have n6_ := Aside0.mk (hi)
          clear HO1_3 BK100001 BK100002 HO100015 HK HB HI0
          revert n0_ n1_ n2_ n3_ n4_ n5_ n6_; intro HO1_3 BK100001 BK100002 HO100015 HK HB HI0
          (try clear hb)
          (try clear hk)
          (try clear hi)
          have p35 : 0 ≤ (0 : Int) := (by omega)
          have q35 : (0 : Int) < ((l1_3.length : Int) : Int) := of_decide_eq_true (by (with_reducible assumption))
          have qi35 : (0 < l1_3.length) = True := eq_true (by omega)
          obtain ⟨go35, co35, eo35, gb35, gl35, cl35, HG35⟩ := Kd.R_form HO1_3.out (by omega)
          (cases eo35)
          have GB35 := Aside0.mk gb35
          have GG35 := Aside0.mk HG35
          clear gb35 gl35 HG35
          have HMgo35 := Aside0.mk (show (P1_3_ go35 ∨ w.heap.size ≤ go35) from (HO1_3.out.1 _ rfl).1)
          obtain ⟨hx35_0, hf35_0⟩ := Kd.R_celln 0 HO1_3.out (0 : Int) p35 q35
          (try rw [show (0 : Int).toNat = 0 from rfl] at hx35_0)
          (try rw [show (0 : Int).toNat = 0 from rfl] at hf35_0)
          replace p35 := eq_true p35
          replace q35 := eq_true q35
          have HN0_go35 := Aside0.mk (show g ≠ go35 from by have h_ := IsS100.own_ne HI0.out HO1_3.out (by decide); intro e_; exact h_ (by rw [e_]; rfl))
          have HP45 := Kd.R_putn HO1_3.out (0 : Int) t100016
          rw [← Ny100018.out] at HP45
          have HQ45 := Aside0.mk HP45
          clear HP45
          refine hK.out _ _ ⟨(blk_cell BK100001.out 0).trans rfl, (blk_cell BK100001.out 1).trans rfl, (blk_cell BK100001.out 2).trans rfl, (blk_cell BK100001.out 3).trans rfl⟩ (fun hHeld => ?_)
          clear hK K
          refine norm_ (a' := ?_) ?_ ?_
          rotate_left
          · show Act.put _ (some 28) _ = _
            simp only [Act.put, List.setIfInBounds_toArray, List.set_cons_zero, List.set_cons_succ, i64_w, i32_w]
            rfl
          refine pure_ (i := 5) (N := some 29) (v := ?_) (a' := ?_) #[true, true, true, true, true, true, false] rfl rfl (by kernel_rfl) (fun _ _ _ h => h) (Or.inl ⟨by rfl, ?_⟩) ?_ ?_
          rotate_left
          · intro w'
            go_simp
            with_reducible rfl
          rotate_left
          · simp only [Act.put, List.setIfInBounds_toArray, List.set_cons_zero, List.set_cons_succ, i64_w, i32_w]
            rfl
          refine last_ (i := 6) (N := none) #[true, true, true, true, true, true, true] rfl rfl (by kernel_rfl) (by decide) (fun K hK => ?_)
          refine skip_ (w1 := ?_) (by rfl) rfl ?_ ?_
          rotate_left
          · go_simp
            rfl
          refine hK.out _ _ ?_
          clear hK K
          refine done_ (by kernel_rfl) ?_
          have n0_ : Aside0 (Kd.R (Kd.int .i64) 3 (w44.setCell ⟨go35, 0, none⟩ (.int .i64 t100016)) w0.heap.size (fun k_ => (P1_3_ k_ ∨ w.heap.size ≤ k_) ∧ some k_ ≠ (.slice Ao43 y100013.length co43 : Value).ownBlock) (.slice (some ⟨go35, 0, none⟩) l1_3.length co36) y100018) := ⟨by (with_reducible repeat (first | apply Kd.R_alloc | apply Kd.R_drewN | apply Kd.R_drew)); exact HQ45.out⟩
          have n1_ : Aside0 (Kd.R (Kd.int .i64) 3 (w44.setCell ⟨go35, 0, none⟩ (.int .i64 t100016)) w0.heap.size (fun k_ => (P1_3_ k_ ∨ w.heap.size ≤ k_) ∧ some k_ ≠ (.slice (some ⟨go35, 0, none⟩) l1_3.length co36 : Value).ownBlock) (.slice Ao43 y100013.length co43) y100013) := ⟨by (with_reducible repeat (first | apply Kd.R_alloc | apply Kd.R_drewN | apply Kd.R_drew)); exact Kd.R_mono (Kd.R_far (p := ⟨go35, 0, none⟩) (Kd.R_mono HO100015.out (fun k_ hk => (⟨hk, fun e_ => hk.2 (by rw [e_]; rfl)⟩ : _ ∧ k_ ≠ go35))) (fun _ hk => hk.2) (.int .i64 t100016)) (fun _ hk => ⟨hk.1.1.1, hk.1.2⟩)⟩
          have n2_ : Aside0 ((w44.setCell ⟨go35, 0, none⟩ (.int .i64 t100016)).heap[gb100001]? = some (.cells #[.int .i64 a1_0, .int .i64 a1_1, .int .i64 a1_2, .slice (some ⟨go35, 0, none⟩) l1_3.length co36] 28 (0, 0))) := ⟨by (with_reducible repeat (first | refine blk_drewN ?_ _ | refine blk_drew ?_ | refine blk_alloc ?_ _)); refine blk_far ?_ (by have h_ := Kd.R_ne HO1_3.out BK100001.out (by decide); intro e_; exact h_ (by rw [e_]; rfl)) _; (with_reducible repeat (first | refine blk_drewN ?_ _ | refine blk_drew ?_ | refine blk_alloc ?_ _)); exact BK100001.out⟩
          have n3_ : Aside0 ((w44.setCell ⟨go35, 0, none⟩ (.int .i64 t100016)).heap[gb100002]? = some (.cells #[.int .i64 0, .int .i64 0, .int .i64 0, .slice none 0 0] 28 (0, 0))) := ⟨by (with_reducible repeat (first | refine blk_drewN ?_ _ | refine blk_drew ?_ | refine blk_alloc ?_ _)); refine blk_far ?_ (by have h_ := Kd.R_ne HO1_3.out BK100002.out (by decide); intro e_; exact h_ (by rw [e_]; rfl)) _; (with_reducible repeat (first | refine blk_drewN ?_ _ | refine blk_drew ?_ | refine blk_alloc ?_ _)); exact BK100002.out⟩
          have n4_ : Aside0 (IsS100 w0 (w44.setCell ⟨go35, 0, none⟩ (.int .i64 t100016)) g s0_0 t100017) := ⟨by repeat (with_reducible first | exact HI0.out | refine IsS100.far ?_ HN0_go35.out _)⟩
          have n5_ : Aside0 (Kept w (w44.setCell ⟨go35, 0, none⟩ (.int .i64 t100016)) (fun k_ => (P1_3_ k_) ∨ k_ = g)) := ⟨by repeat ((with_reducible first | exact HK.out | refine Kept.setCell ?_ (Or.imp_left Or.inl HMgo35.out) _))⟩
          have n6_ : Aside0 (Below w0.heap.size w0 (w44.setCell ⟨go35, 0, none⟩ (.int .i64 t100016))) := ⟨by repeat (with_reducible first | exact HB.out | refine below_set ?_ GB35.out)⟩
          (try clear HO1_3)
          (try clear HO100015)
          (try clear BK100001)
          (try clear BK100002)
          (try clear HI0)
          (try clear HK)
          (try clear HB)
          generalize (w44.setCell ⟨go35, 0, none⟩ (.int .i64 t100016)) = w46 at n0_ n1_ n2_ n3_ n4_ n5_ n6_ ⊢
          revert n0_ n1_ n2_ n3_ n4_ n5_ n6_; intro HO1_3 HO100015 BK100001 BK100002 HI0 HK HB
          have hnb47 := NB100001_100002.out
          have hnc47 := NB100002_100001.out
          have hnb48 := NB100001_0.out
          have hnc48 := NB0_100001.out
          have hcz49_0 : w46.cell? ⟨gb100001, 0, none⟩ = some (.int .i64 a1_0) := (blk_cell BK100001.out 0).trans rfl
          have hcz49_1 : w46.cell? ⟨gb100001, 1, none⟩ = some (.int .i64 a1_1) := (blk_cell BK100001.out 1).trans rfl
          have hcz49_2 : w46.cell? ⟨gb100001, 2, none⟩ = some (.int .i64 a1_2) := (blk_cell BK100001.out 2).trans rfl
          have hcz49_3 : w46.cell? ⟨gb100001, 3, none⟩ = some (.slice (some ⟨go35, 0, none⟩) l1_3.length co36) := (blk_cell BK100001.out 3).trans rfl
          have hfz49_0 := blk_frozen BK100001.out 0
          have hfz49_1 := blk_frozen BK100001.out 1
          have hfz49_2 := blk_frozen BK100001.out 2
          have hfz49_3 := blk_frozen BK100001.out 3
          have hnb50 := NB100002_0.out
          have hnc50 := NB0_100002.out
          have hcz51_0 : w46.cell? ⟨gb100002, 0, none⟩ = some (.int .i64 0) := (blk_cell BK100002.out 0).trans rfl
          have hcz51_1 : w46.cell? ⟨gb100002, 1, none⟩ = some (.int .i64 0) := (blk_cell BK100002.out 1).trans rfl
          have hcz51_2 : w46.cell? ⟨gb100002, 2, none⟩ = some (.int .i64 0) := (blk_cell BK100002.out 2).trans rfl
          have hcz51_3 : w46.cell? ⟨gb100002, 3, none⟩ = some (.slice none 0 0) := (blk_cell BK100002.out 3).trans rfl
          have hfz51_0 := blk_frozen BK100002.out 0
          have hfz51_1 := blk_frozen BK100002.out 1
          have hfz51_2 := blk_frozen BK100002.out 2
          have hfz51_3 := blk_frozen BK100002.out 3
          try go_wp2
          refine bodyPost_ret (results_cell_row rfl _ _ gb100002 28 #[.int .i64 a1_0, .int .i64 a1_1, .int .i64 a1_2, .slice (some ⟨go35, 0, none⟩) l1_3.length co36] (0, 0) _ rfl (by refine blk_put (cs := #[.int .i64 a1_0, .int .i64 a1_1, .int .i64 a1_2, .slice none 0 0]) ?_ 3 _ rfl; (with_reducible repeat (first | refine blk_drewN ?_ _ | refine blk_drew ?_ | refine blk_alloc ?_ _)); refine blk_put (cs := #[.int .i64 a1_0, .int .i64 a1_1, .int .i64 0, .slice none 0 0]) ?_ 2 _ rfl; (with_reducible repeat (first | refine blk_drewN ?_ _ | refine blk_drew ?_ | refine blk_alloc ?_ _)); refine blk_put (cs := #[.int .i64 a1_0, .int .i64 0, .int .i64 0, .slice none 0 0]) ?_ 1 _ rfl; (with_reducible repeat (first | refine blk_drewN ?_ _ | refine blk_drew ?_ | refine blk_alloc ?_ _)); refine blk_put (cs := #[.int .i64 0, .int .i64 0, .int .i64 0, .slice none 0 0]) ?_ 0 _ rfl; (with_reducible repeat (first | refine blk_drewN ?_ _ | refine blk_drew ?_ | refine blk_alloc ?_ _)); exact BK100002.out) Try.underlying28 rfl (by kernel_rfl)) rfl ?_
          exact ⟨_, by rfl, Kd.Q_of_R (by exact Kd.R_mono (Kd.R_far (p := ⟨gb100002, 3, none⟩) (Kd.R_far (p := ⟨gb100002, 2, none⟩) (Kd.R_far (p := ⟨gb100002, 1, none⟩) (Kd.R_far (p := ⟨gb100002, 0, none⟩) (Kd.R_types HO1_3.out BK100002.out (by decide)) (fun _ hk => hk.2) (.int .i64 a1_0)) (fun _ hk => hk.2) (.int .i64 a1_1)) (fun _ hk => hk.2) (.int .i64 a1_2)) (fun _ hk => hk.2) (.slice (some ⟨go35, 0, none⟩) l1_3.length co36)) (fun _ hk => hk.1.1)), by repeat (with_reducible first | exact HI0.out | refine IsS100.far ?_ NB0_100002.out _), by repeat (with_reducible first | exact HB.out | refine below_set ?_ GE100002.out), by repeat ((with_reducible first | exact HK.out | refine Kept.setCell ?_ (.inr GW100002.out) _))⟩
        · rw [if_neg c34] at H
          exact absurd H (by simp)
      · rw [if_neg c32] at H
        have c32b0 : (t100003 == 2) = false := beq_eq_false_iff_ne.mpr c32
        have c32b1 : (t100003 != 2) = true := bne_iff_ne.mpr c32
        by_cases c52 : t100003 = 3
        · rw [if_pos c52] at H
          have c52b0 : (t100003 == 3) = true := beq_iff_eq.mpr c52
          have c52b1 : (t100003 != 3) = false := bne_eq_false_iff_eq.mpr c52
          clear c52
          obtain ⟨y100019, hy100019⟩ : ∃ y_ : List Int, y_ = ([0, 5] : List Int) := ⟨_, rfl⟩
          replace H : ((spec_reader_one.f k s0_0 t100004 y100019).bind fun bt100022 => (some (a1_0, a1_1, bt100022.1, l1_3, bt100022.2))) = some (r1, r2, r3, r4, r5) := by (rw [hy100019]; with_reducible exact H)
          have Ny100019 := Aside0.mk hy100019
          clear hy100019
          replace H := Option.bind_eq_some_iff.mp H
          obtain ⟨⟨t100022, t100023⟩, A530, H⟩ := H
          replace H : (some (a1_0, a1_1, t100022, l1_3, t100023)) = some (r1, r2, r3, r4, r5) := H
          have A53 := Aside0.mk A530
          clear A530
          simp only [Option.some.injEq, Prod.mk.injEq] at H
          obtain ⟨rfl, rfl, rfl, rfl, rfl⟩ := H
          obtain ⟨Ao54, co54, eo54⟩ := Kd.R_slice HO1_3.out
          subst eo54
          go_enter Try.func99, Try.ntmps99
          go_wp2_with (first | ((with_reducible refine gate_dst (N := 3) rfl ?_); refine box_event ?hg (N := 3) ?hd (cs := #[.int .i64 a1_0, .int .i64 a1_1, .int .i64 a1_2, .slice Ao54 l1_3.length co54]) (t := 28) ?hr ?_; (case hd => rfl); (case hg => rfl); (case hr => (go_simp; done)); intro gb100001 hg w55 hbox hb; have n0_ := Aside0.mk (Kd.R_below HO1_3.out hb); have n1_ := Aside0.mk (IsS100.below HI0.out hb); have n2_ := Aside0.mk (Kept.below (S := (fun k_ => (P1_3_ k_) ∨ k_ = g)) HK.out hb); have n3_ := Aside0.mk (below_step HB.out hb); have n4_ := Aside0.mk (hbox); have n5_ := Aside0.mk (by rw [hg]; exact HK.out.1 : w.heap.size ≤ gb100001); have n6_ := Aside0.mk ((by rw [hg]; exact (below_size HB.out) : w0.heap.size ≤ gb100001)); have n7_ := Aside0.mk ((by rw [hg]; exact Nat.ne_of_lt (IsS100.lt (show IsS100 w0 _ g s0_0 s0_1 from by exact HI0.out)) : g ≠ gb100001)); have n8_ := Aside0.mk ((by rw [hg]; exact Nat.ne_of_gt (IsS100.lt (show IsS100 w0 _ g s0_0 s0_1 from by exact HI0.out)) : gb100001 ≠ g)); clear HO1_3; clear HI0; clear HK; clear HB; have HO1_3 := n0_; have HI0 := n1_; have HK := n2_; have HB := n3_; have BK100001 := n4_; have GW100001 := n5_; have GE100001 := n6_; have NB0_100001 := n7_; have NB100001_0 := n8_; clear n0_ n1_ n2_ n3_ n4_ n5_ n6_ n7_ n8_; clear hb hbox hg) | ((with_reducible refine gate_dst (N := 4) rfl ?_); refine box_event ?hg (N := 4) ?hd (cs := #[.int .i64 0, .int .i64 0, .int .i64 0, .slice none 0 0]) (t := 28) ?hr ?_; (case hd => rfl); (case hg => rfl); (case hr => (go_simp; done)); intro gb100002 hg w56 hbox hb; have n0_ := Aside0.mk (Kd.R_below HO1_3.out hb); have n1_ := Aside0.mk (IsS100.below HI0.out hb); have n2_ := Aside0.mk (blk_below BK100001.out hb); have n3_ := Aside0.mk (Kept.below (S := (fun k_ => (P1_3_ k_) ∨ k_ = g)) HK.out hb); have n4_ := Aside0.mk (below_step HB.out hb); have n5_ := Aside0.mk (hbox); have n6_ := Aside0.mk (by rw [hg]; exact HK.out.1 : w.heap.size ≤ gb100002); have n7_ := Aside0.mk ((by rw [hg]; exact (below_size HB.out) : w0.heap.size ≤ gb100002)); have n8_ := Aside0.mk ((by rw [hg]; exact Nat.ne_of_lt (blk_lt BK100001.out) : gb100001 ≠ gb100002)); have n9_ := Aside0.mk ((by rw [hg]; exact Nat.ne_of_gt (blk_lt BK100001.out) : gb100002 ≠ gb100001)); have n10_ := Aside0.mk ((by rw [hg]; exact Nat.ne_of_lt (IsS100.lt (show IsS100 w0 _ g s0_0 s0_1 from by exact HI0.out)) : g ≠ gb100002)); have n11_ := Aside0.mk ((by rw [hg]; exact Nat.ne_of_gt (IsS100.lt (show IsS100 w0 _ g s0_0 s0_1 from by exact HI0.out)) : gb100002 ≠ g)); clear HO1_3; clear HI0; clear BK100001; clear HK; clear HB; have HO1_3 := n0_; have HI0 := n1_; have BK100001 := n2_; have HK := n3_; have HB := n4_; have BK100002 := n5_; have GW100002 := n6_; have GE100002 := n7_; have NB100001_100002 := n8_; have NB100002_100001 := n9_; have NB0_100002 := n10_; have NB100002_0 := n11_; clear n0_ n1_ n2_ n3_ n4_ n5_ n6_ n7_ n8_ n9_ n10_ n11_; clear hb hbox hg) | ((with_reducible refine gate_callee (f := 82) rfl ?_); refine goesL_ (some 6) rfl rfl Try.func82 (by kernel_rfl) rfl #[.pointer (some ⟨g, 0, none⟩), .int .i64 40] rfl (by (try simp only [List.map_toArray, List.map_cons, List.map_nil]); rfl) ?_; (with_reducible refine (spec_reader_pick.calls k g s0_0 s0_1 40 t100003 t100004 w0 _ ?side1 ?side2 A3.out).mono ?_); (case side1 => repeat (with_reducible exact HI0.out)); (case side2 => repeat (with_reducible exact HB.out)); rintro e w57 ⟨rfl, hi, hb, hk⟩; refine ⟨_, rfl, ?_⟩; have n0_ := Aside0.mk (Kd.R_mono (Kd.R_keep (IsS100.apart (show IsS100 w0 _ g s0_0 s0_1 from by exact HI0.out) HO1_3.out (by decide)) hk (fun _ h => h.2)) (fun _ h => h.1)); have n1_ := Aside0.mk (KeepBut.blk hk (g' := gb100001) (o := .cells #[.int .i64 a1_0, .int .i64 a1_1, .int .i64 a1_2, .slice Ao54 l1_3.length co54] 28 (0, 0)) BK100001.out NB100001_0.out (by simp)); have n2_ := Aside0.mk (KeepBut.blk hk (g' := gb100002) (o := .cells #[.int .i64 0, .int .i64 0, .int .i64 0, .slice none 0 0] 28 (0, 0)) BK100002.out NB100002_0.out (by simp)); have n3_ := Aside0.mk (Kept.of_keep (S := (fun k_ => (P1_3_ k_) ∨ k_ = g)) HK.out hk (.inl (.inr rfl))); have n4_ := Aside0.mk (hb); have n5_ := Aside0.mk (hi); clear HO1_3; clear BK100001; clear BK100002; clear HK; clear HB; clear HI0; have HO1_3 := n0_; have BK100001 := n1_; have BK100002 := n2_; have HK := n3_; have HB := n4_; have HI0 := n5_; clear n0_ n1_ n2_ n3_ n4_ n5_; (try clear hb); (try clear hk); (try clear hi)) | ((with_reducible refine gate_dst (N := 33) rfl ?_); refine Kd.R_lit (Kd.int .i64) _ 3 ?hg (N := 33) ?hd (xs := ([0, 5] : List Int)) (inner := [.int .i64 0, .int .i64 5]) (ok := fun _ => True) (okp := fun _ => True) ?hr ?hp (fun _ hk => hk) trivial (Below.refl _ _) (Nat.le_refl _) (by simp) ?_; (case hd => rfl); (case hg => rfl); (case hr => (go_simp; done)); (case hp => exact (Reps.one (show Kd.M (Kd.int .i64) _ _ _ 0 [.int .i64 0] from rfl) (Reps.one (show Kd.M (Kd.int .i64) _ _ _ 5 [.int .i64 5] from rfl) (Reps.none _ _)))); intro v100020 w58 ho59 hb hg_ hnew_; clear hg_ hnew_; (rw [← Ny100019.out] at ho59); have n0_ := Aside0.mk (Kd.R_elder' HO1_3.out (Kd.R_base ho59) hb); have n1_ := Aside0.mk (Kd.R_lower (Kd.R_new' (Kd.R_newM (M := fun k_ => (P1_3_ k_ ∨ w.heap.size ≤ k_)) ho59 HK.out.1 (fun k_ h_ => .inr h_)) (Kd.R_lt HO1_3.out)) (below_size HB.out)); have n2_ := Aside0.mk (IsS100.below HI0.out hb); have n3_ := Aside0.mk (blk_below BK100001.out hb); have n4_ := Aside0.mk (blk_below BK100002.out hb); have n5_ := Aside0.mk (Kept.below (S := (fun k_ => (P1_3_ k_) ∨ k_ = g)) HK.out hb); have n6_ := Aside0.mk (below_step HB.out hb); clear HO1_3; clear HI0; clear BK100001; clear BK100002; clear HK; clear HB; have HO1_3 := n0_; have HO100021 := n1_; have HI0 := n2_; have BK100001 := n3_; have BK100002 := n4_; have HK := n5_; have HB := n6_; clear n0_ n1_ n2_ n3_ n4_ n5_ n6_; clear hb ho59; obtain ⟨Ao60, co60, eo60⟩ := Kd.R_slice HO100021.out; subst eo60) | ((with_reducible refine gate_callee (f := 73) rfl ?_); refine goesL_ (some 34) rfl rfl Try.func73 (by kernel_rfl) rfl #[.pointer (some ⟨g, 0, none⟩), .slice Ao60 y100019.length co60] rfl (by (try simp only [List.map_toArray, List.map_cons, List.map_nil]); rfl) ?_; (with_reducible refine (spec_reader_one.calls k g s0_0 t100004 _ _ y100019 t100022 t100023 w0 _ ?side1 ?side2 ?side3 ?side4 ?side5 A53.out).mono ?_); (case side1 => repeat (with_reducible exact HI0.out)); (case side2 => repeat (with_reducible exact HB.out)); (case side3 => repeat (exact (Kd.R_reads' HO100021.out).2.2)); (case side4 => exact (Kd.R_reads' HO100021.out).2.1); (case side5 => exact far_slice (IsS100.own_ne HI0.out HO100021.out (by decide))); rintro e w61 ⟨rfl, hi, hb, hk⟩; refine ⟨_, rfl, ?_⟩; have n0_ := Aside0.mk (Kd.R_mono (Kd.R_keep (IsS100.apart (show IsS100 w0 _ g s0_0 t100004 from by exact HI0.out) HO1_3.out (by decide)) hk (fun _ h => h.2)) (fun _ h => h.1)); have n1_ := Aside0.mk (KeepBut.blk hk (g' := gb100001) (o := .cells #[.int .i64 a1_0, .int .i64 a1_1, .int .i64 a1_2, .slice Ao54 l1_3.length co54] 28 (0, 0)) BK100001.out NB100001_0.out (by simp)); have n2_ := Aside0.mk (KeepBut.blk hk (g' := gb100002) (o := .cells #[.int .i64 0, .int .i64 0, .int .i64 0, .slice none 0 0] 28 (0, 0)) BK100002.out NB100002_0.out (by simp)); have n3_ := Aside0.mk (Kd.R_mono (Kd.R_keep (IsS100.apart (show IsS100 w0 _ g s0_0 t100004 from by exact HI0.out) HO100021.out (by decide)) hk (fun _ h => h.2)) (fun _ h => h.1)); have n4_ := Aside0.mk (Kept.of_keep (S := (fun k_ => (P1_3_ k_) ∨ k_ = g)) HK.out hk (.inl (.inr rfl))); have n5_ := Aside0.mk (hb); have n6_ := Aside0.mk (hi); clear HO1_3; clear BK100001; clear BK100002; clear HO100021; clear HK; clear HB; clear HI0; have HO1_3 := n0_; have BK100001 := n1_; have BK100002 := n2_; have HO100021 := n3_; have HK := n4_; have HB := n5_; have HI0 := n6_; clear n0_ n1_ n2_ n3_ n4_ n5_ n6_; (try clear hb); (try clear hk); (try clear hi); have hnb62 := NB100001_100002.out; have hnc62 := NB100002_100001.out; have hnb63 := NB100001_0.out; have hnc63 := NB0_100001.out; have hcz64_0 : w61.cell? ⟨gb100001, 0, none⟩ = some (.int .i64 a1_0) := (blk_cell BK100001.out 0).trans rfl; have hcz64_1 : w61.cell? ⟨gb100001, 1, none⟩ = some (.int .i64 a1_1) := (blk_cell BK100001.out 1).trans rfl; have hcz64_2 : w61.cell? ⟨gb100001, 2, none⟩ = some (.int .i64 a1_2) := (blk_cell BK100001.out 2).trans rfl; have hcz64_3 : w61.cell? ⟨gb100001, 3, none⟩ = some (.slice Ao54 l1_3.length co54) := (blk_cell BK100001.out 3).trans rfl; have hfz64_0 := blk_frozen BK100001.out 0; have hfz64_1 := blk_frozen BK100001.out 1; have hfz64_2 := blk_frozen BK100001.out 2; have hfz64_3 := blk_frozen BK100001.out 3; have hnb65 := NB100002_0.out; have hnc65 := NB0_100002.out; have hcz66_0 : w61.cell? ⟨gb100002, 0, none⟩ = some (.int .i64 0) := (blk_cell BK100002.out 0).trans rfl; have hcz66_1 : w61.cell? ⟨gb100002, 1, none⟩ = some (.int .i64 0) := (blk_cell BK100002.out 1).trans rfl; have hcz66_2 : w61.cell? ⟨gb100002, 2, none⟩ = some (.int .i64 0) := (blk_cell BK100002.out 2).trans rfl; have hcz66_3 : w61.cell? ⟨gb100002, 3, none⟩ = some (.slice none 0 0) := (blk_cell BK100002.out 3).trans rfl; have hfz66_0 := blk_frozen BK100002.out 0; have hfz66_1 := blk_frozen BK100002.out 1; have hfz66_2 := blk_frozen BK100002.out 2; have hfz66_3 := blk_frozen BK100002.out 3))
          refine bodyPost_ret (results_cell_row rfl _ _ gb100002 28 #[.int .i64 a1_0, .int .i64 a1_1, .int .i64 t100022, .slice Ao54 l1_3.length co54] (0, 0) _ rfl (by refine blk_put (cs := #[.int .i64 a1_0, .int .i64 a1_1, .int .i64 t100022, .slice none 0 0]) ?_ 3 _ rfl; (with_reducible repeat (first | refine blk_drewN ?_ _ | refine blk_drew ?_ | refine blk_alloc ?_ _)); refine blk_put (cs := #[.int .i64 a1_0, .int .i64 a1_1, .int .i64 0, .slice none 0 0]) ?_ 2 _ rfl; (with_reducible repeat (first | refine blk_drewN ?_ _ | refine blk_drew ?_ | refine blk_alloc ?_ _)); refine blk_put (cs := #[.int .i64 a1_0, .int .i64 0, .int .i64 0, .slice none 0 0]) ?_ 1 _ rfl; (with_reducible repeat (first | refine blk_drewN ?_ _ | refine blk_drew ?_ | refine blk_alloc ?_ _)); refine blk_put (cs := #[.int .i64 0, .int .i64 0, .int .i64 0, .slice none 0 0]) ?_ 0 _ rfl; (with_reducible repeat (first | refine blk_drewN ?_ _ | refine blk_drew ?_ | refine blk_alloc ?_ _)); refine blk_far ?_ NB100002_100001.out _; (with_reducible repeat (first | refine blk_drewN ?_ _ | refine blk_drew ?_ | refine blk_alloc ?_ _)); exact BK100002.out) Try.underlying28 rfl (by kernel_rfl)) rfl ?_
          exact ⟨_, by rfl, Kd.Q_of_R (by exact Kd.R_mono (Kd.R_far (p := ⟨gb100002, 3, none⟩) (Kd.R_far (p := ⟨gb100002, 2, none⟩) (Kd.R_far (p := ⟨gb100002, 1, none⟩) (Kd.R_far (p := ⟨gb100002, 0, none⟩) (Kd.R_far (p := ⟨gb100001, 2, none⟩) (Kd.R_types (Kd.R_types HO1_3.out BK100001.out (by decide)) BK100002.out (by decide)) (fun _ hk => hk.1.2) (.int .i64 t100022)) (fun _ hk => hk.2) (.int .i64 a1_0)) (fun _ hk => hk.2) (.int .i64 a1_1)) (fun _ hk => hk.2) (.int .i64 t100022)) (fun _ hk => hk.2) (.slice Ao54 l1_3.length co54)) (fun _ hk => hk.1.1.1)), by repeat (with_reducible first | exact HI0.out | refine IsS100.far ?_ NB0_100001.out _ | refine IsS100.far ?_ NB0_100002.out _), by repeat (with_reducible first | exact HB.out | refine below_set ?_ GE100001.out | refine below_set ?_ GE100002.out), by repeat ((with_reducible first | exact HK.out | refine Kept.setCell ?_ (.inr GW100001.out) _ | refine Kept.setCell ?_ (.inr GW100002.out) _))⟩
        · rw [if_neg c52] at H
          have c52b0 : (t100003 == 3) = false := beq_eq_false_iff_ne.mpr c52
          have c52b1 : (t100003 != 3) = true := bne_iff_ne.mpr c52
          simp only [Option.some.injEq, Prod.mk.injEq] at H
          obtain ⟨rfl, rfl, rfl, rfl, rfl⟩ := H
          obtain ⟨Ao67, co67, eo67⟩ := Kd.R_slice HO1_3.out
          subst eo67
          go_enter Try.func99, Try.ntmps99
          go_wp2_with (first | ((with_reducible refine gate_dst (N := 3) rfl ?_); refine box_event ?hg (N := 3) ?hd (cs := #[.int .i64 a1_0, .int .i64 a1_1, .int .i64 a1_2, .slice Ao67 l1_3.length co67]) (t := 28) ?hr ?_; (case hd => rfl); (case hg => rfl); (case hr => (go_simp; done)); intro gb100001 hg w68 hbox hb; have n0_ := Aside0.mk (Kd.R_below HO1_3.out hb); have n1_ := Aside0.mk (IsS100.below HI0.out hb); have n2_ := Aside0.mk (Kept.below (S := (fun k_ => (P1_3_ k_) ∨ k_ = g)) HK.out hb); have n3_ := Aside0.mk (below_step HB.out hb); have n4_ := Aside0.mk (hbox); have n5_ := Aside0.mk (by rw [hg]; exact HK.out.1 : w.heap.size ≤ gb100001); have n6_ := Aside0.mk ((by rw [hg]; exact (below_size HB.out) : w0.heap.size ≤ gb100001)); have n7_ := Aside0.mk ((by rw [hg]; exact Nat.ne_of_lt (IsS100.lt (show IsS100 w0 _ g s0_0 s0_1 from by exact HI0.out)) : g ≠ gb100001)); have n8_ := Aside0.mk ((by rw [hg]; exact Nat.ne_of_gt (IsS100.lt (show IsS100 w0 _ g s0_0 s0_1 from by exact HI0.out)) : gb100001 ≠ g)); clear HO1_3; clear HI0; clear HK; clear HB; have HO1_3 := n0_; have HI0 := n1_; have HK := n2_; have HB := n3_; have BK100001 := n4_; have GW100001 := n5_; have GE100001 := n6_; have NB0_100001 := n7_; have NB100001_0 := n8_; clear n0_ n1_ n2_ n3_ n4_ n5_ n6_ n7_ n8_; clear hb hbox hg) | ((with_reducible refine gate_dst (N := 4) rfl ?_); refine box_event ?hg (N := 4) ?hd (cs := #[.int .i64 0, .int .i64 0, .int .i64 0, .slice none 0 0]) (t := 28) ?hr ?_; (case hd => rfl); (case hg => rfl); (case hr => (go_simp; done)); intro gb100002 hg w69 hbox hb; have n0_ := Aside0.mk (Kd.R_below HO1_3.out hb); have n1_ := Aside0.mk (IsS100.below HI0.out hb); have n2_ := Aside0.mk (blk_below BK100001.out hb); have n3_ := Aside0.mk (Kept.below (S := (fun k_ => (P1_3_ k_) ∨ k_ = g)) HK.out hb); have n4_ := Aside0.mk (below_step HB.out hb); have n5_ := Aside0.mk (hbox); have n6_ := Aside0.mk (by rw [hg]; exact HK.out.1 : w.heap.size ≤ gb100002); have n7_ := Aside0.mk ((by rw [hg]; exact (below_size HB.out) : w0.heap.size ≤ gb100002)); have n8_ := Aside0.mk ((by rw [hg]; exact Nat.ne_of_lt (blk_lt BK100001.out) : gb100001 ≠ gb100002)); have n9_ := Aside0.mk ((by rw [hg]; exact Nat.ne_of_gt (blk_lt BK100001.out) : gb100002 ≠ gb100001)); have n10_ := Aside0.mk ((by rw [hg]; exact Nat.ne_of_lt (IsS100.lt (show IsS100 w0 _ g s0_0 s0_1 from by exact HI0.out)) : g ≠ gb100002)); have n11_ := Aside0.mk ((by rw [hg]; exact Nat.ne_of_gt (IsS100.lt (show IsS100 w0 _ g s0_0 s0_1 from by exact HI0.out)) : gb100002 ≠ g)); clear HO1_3; clear HI0; clear BK100001; clear HK; clear HB; have HO1_3 := n0_; have HI0 := n1_; have BK100001 := n2_; have HK := n3_; have HB := n4_; have BK100002 := n5_; have GW100002 := n6_; have GE100002 := n7_; have NB100001_100002 := n8_; have NB100002_100001 := n9_; have NB0_100002 := n10_; have NB100002_0 := n11_; clear n0_ n1_ n2_ n3_ n4_ n5_ n6_ n7_ n8_ n9_ n10_ n11_; clear hb hbox hg) | ((with_reducible refine gate_callee (f := 82) rfl ?_); refine goesL_ (some 6) rfl rfl Try.func82 (by kernel_rfl) rfl #[.pointer (some ⟨g, 0, none⟩), .int .i64 40] rfl (by (try simp only [List.map_toArray, List.map_cons, List.map_nil]); rfl) ?_; (with_reducible refine (spec_reader_pick.calls k g s0_0 s0_1 40 t100003 t100004 w0 _ ?side1 ?side2 A3.out).mono ?_); (case side1 => repeat (with_reducible exact HI0.out)); (case side2 => repeat (with_reducible exact HB.out)); rintro e w70 ⟨rfl, hi, hb, hk⟩; refine ⟨_, rfl, ?_⟩; have n0_ := Aside0.mk (Kd.R_mono (Kd.R_keep (IsS100.apart (show IsS100 w0 _ g s0_0 s0_1 from by exact HI0.out) HO1_3.out (by decide)) hk (fun _ h => h.2)) (fun _ h => h.1)); have n1_ := Aside0.mk (KeepBut.blk hk (g' := gb100001) (o := .cells #[.int .i64 a1_0, .int .i64 a1_1, .int .i64 a1_2, .slice Ao67 l1_3.length co67] 28 (0, 0)) BK100001.out NB100001_0.out (by simp)); have n2_ := Aside0.mk (KeepBut.blk hk (g' := gb100002) (o := .cells #[.int .i64 0, .int .i64 0, .int .i64 0, .slice none 0 0] 28 (0, 0)) BK100002.out NB100002_0.out (by simp)); have n3_ := Aside0.mk (Kept.of_keep (S := (fun k_ => (P1_3_ k_) ∨ k_ = g)) HK.out hk (.inl (.inr rfl))); have n4_ := Aside0.mk (hb); have n5_ := Aside0.mk (hi); clear HO1_3; clear BK100001; clear BK100002; clear HK; clear HB; clear HI0; have HO1_3 := n0_; have BK100001 := n1_; have BK100002 := n2_; have HK := n3_; have HB := n4_; have HI0 := n5_; clear n0_ n1_ n2_ n3_ n4_ n5_; (try clear hb); (try clear hk); (try clear hi); have hnb71 := NB100001_100002.out; have hnc71 := NB100002_100001.out; have hnb72 := NB100001_0.out; have hnc72 := NB0_100001.out; have hcz73_0 : w70.cell? ⟨gb100001, 0, none⟩ = some (.int .i64 a1_0) := (blk_cell BK100001.out 0).trans rfl; have hcz73_1 : w70.cell? ⟨gb100001, 1, none⟩ = some (.int .i64 a1_1) := (blk_cell BK100001.out 1).trans rfl; have hcz73_2 : w70.cell? ⟨gb100001, 2, none⟩ = some (.int .i64 a1_2) := (blk_cell BK100001.out 2).trans rfl; have hcz73_3 : w70.cell? ⟨gb100001, 3, none⟩ = some (.slice Ao67 l1_3.length co67) := (blk_cell BK100001.out 3).trans rfl; have hfz73_0 := blk_frozen BK100001.out 0; have hfz73_1 := blk_frozen BK100001.out 1; have hfz73_2 := blk_frozen BK100001.out 2; have hfz73_3 := blk_frozen BK100001.out 3; have hnb74 := NB100002_0.out; have hnc74 := NB0_100002.out; have hcz75_0 : w70.cell? ⟨gb100002, 0, none⟩ = some (.int .i64 0) := (blk_cell BK100002.out 0).trans rfl; have hcz75_1 : w70.cell? ⟨gb100002, 1, none⟩ = some (.int .i64 0) := (blk_cell BK100002.out 1).trans rfl; have hcz75_2 : w70.cell? ⟨gb100002, 2, none⟩ = some (.int .i64 0) := (blk_cell BK100002.out 2).trans rfl; have hcz75_3 : w70.cell? ⟨gb100002, 3, none⟩ = some (.slice none 0 0) := (blk_cell BK100002.out 3).trans rfl; have hfz75_0 := blk_frozen BK100002.out 0; have hfz75_1 := blk_frozen BK100002.out 1; have hfz75_2 := blk_frozen BK100002.out 2; have hfz75_3 := blk_frozen BK100002.out 3))
          refine bodyPost_ret (results_cell_row rfl _ _ gb100002 28 #[.int .i64 a1_0, .int .i64 a1_1, .int .i64 a1_2, .slice Ao67 l1_3.length co67] (0, 0) _ rfl (by refine blk_put (cs := #[.int .i64 a1_0, .int .i64 a1_1, .int .i64 a1_2, .slice none 0 0]) ?_ 3 _ rfl; (with_reducible repeat (first | refine blk_drewN ?_ _ | refine blk_drew ?_ | refine blk_alloc ?_ _)); refine blk_put (cs := #[.int .i64 a1_0, .int .i64 a1_1, .int .i64 0, .slice none 0 0]) ?_ 2 _ rfl; (with_reducible repeat (first | refine blk_drewN ?_ _ | refine blk_drew ?_ | refine blk_alloc ?_ _)); refine blk_put (cs := #[.int .i64 a1_0, .int .i64 0, .int .i64 0, .slice none 0 0]) ?_ 1 _ rfl; (with_reducible repeat (first | refine blk_drewN ?_ _ | refine blk_drew ?_ | refine blk_alloc ?_ _)); refine blk_put (cs := #[.int .i64 0, .int .i64 0, .int .i64 0, .slice none 0 0]) ?_ 0 _ rfl; (with_reducible repeat (first | refine blk_drewN ?_ _ | refine blk_drew ?_ | refine blk_alloc ?_ _)); exact BK100002.out) Try.underlying28 rfl (by kernel_rfl)) rfl ?_
          exact ⟨_, by rfl, Kd.Q_of_R (by exact Kd.R_mono (Kd.R_far (p := ⟨gb100002, 3, none⟩) (Kd.R_far (p := ⟨gb100002, 2, none⟩) (Kd.R_far (p := ⟨gb100002, 1, none⟩) (Kd.R_far (p := ⟨gb100002, 0, none⟩) (Kd.R_types HO1_3.out BK100002.out (by decide)) (fun _ hk => hk.2) (.int .i64 a1_0)) (fun _ hk => hk.2) (.int .i64 a1_1)) (fun _ hk => hk.2) (.int .i64 a1_2)) (fun _ hk => hk.2) (.slice Ao67 l1_3.length co67)) (fun _ hk => hk.1)), by repeat (with_reducible first | exact HI0.out | refine IsS100.far ?_ NB0_100002.out _), by repeat (with_reducible first | exact HB.out | refine below_set ?_ GE100002.out), by repeat ((with_reducible first | exact HK.out | refine Kept.setCell ?_ (.inr GW100002.out) _))⟩


def spec_newImage.f (a0 : Int) (a1 : Int) (a2 : Int) : Option (Int × Int × Int × List Int) := if 0 ≤ (wrap64 ((wrap64 (a0 * a1)) * a2)) then (if (wrap64 ((wrap64 (a0 * a1)) * a2) : Int).toNat ≤ 35184372088832 then (some (a0, a1, a2, (List.replicate (wrap64 ((wrap64 (a0 * a1)) * a2) : Int).toNat 0))) else (none)) else (none)
set_option maxHeartbeats 8000000 in
set_option maxRecDepth 100000 in
theorem spec_newImage.calls (a0 : Int) (a1 : Int) (a2 : Int) (r1 : Int) (r2 : Int) (r3 : Int) (r4 : List Int) (w : World) (h : spec_newImage.f a0 a1 a2 = some (r1, r2, r3, r4)) :
    Calls Try.prog 107 #[.int .i64 a0, .int .i64 a1, .int .i64 a2] w fun e w' => ∃ v3_ : Value, e = .returned (.agg #[.int .i64 r1, .int .i64 r2, .int .i64 r3, v3_]) ∧ Kd.R (Kd.int .i64) 3 w' w.heap.size (fun _ => True) v3_ r4 ∧ Below w.heap.size w w' := by
  have hu28 := Try.underlying28
  have HB := Aside0.mk (Below.refl w.heap.size w)
  have H : (if 0 ≤ (wrap64 ((wrap64 (a0 * a1)) * a2)) then (if (wrap64 ((wrap64 (a0 * a1)) * a2) : Int).toNat ≤ 35184372088832 then (some (a0, a1, a2, (List.replicate (wrap64 ((wrap64 (a0 * a1)) * a2) : Int).toNat 0))) else (none)) else (none)) = some (r1, r2, r3, r4) := h
  clear h
  obtain ⟨ji4, hji4⟩ : ∃ j_ : Int, (wrap64 ((wrap64 (a0 * a1)) * a2)) = j_ := ⟨_, rfl⟩
  replace H : (if 0 ≤ (ji4) then (if (ji4 : Int).toNat ≤ 35184372088832 then (some (a0, a1, a2, (List.replicate (ji4 : Int).toNat 0))) else (none)) else (none)) = some (r1, r2, r3, r4) := by first | (rw [hji4] at H; exact H) | (simp only [hji4] at H ⊢; exact H)
  have hji4w : (IntKind.i64.wrap ((wrap64 (a0 * a1)) * a2)) = ji4 := (i64_w _).trans hji4
  by_cases c5 : 0 ≤ (ji4)
  · rw [if_pos c5] at H
    have c5b0 := eq_true c5
    have c5b1 : decide (0 ≤ (ji4)) = true := decide_eq_true c5
    clear c5
    by_cases c6 : (ji4 : Int).toNat ≤ 35184372088832
    · rw [if_pos c6] at H
      have c6b0 := eq_true c6
      have c6b1 : decide ((ji4 : Int).toNat ≤ 35184372088832) = true := decide_eq_true c6
      clear c6
      obtain ⟨y108002, hy108002⟩ : ∃ y_ : List Int, y_ = (List.replicate (ji4 : Int).toNat 0) := ⟨_, rfl⟩
      replace H : (some (a0, a1, a2, y108002)) = some (r1, r2, r3, r4) := by first | (rw [hy108002]; with_reducible exact H) | (have H2_ := (Option.bind_some _ _).symm.trans H; rw [hy108002]; with_reducible exact H2_) | (have H2_ := (Option.bind_some _ _).symm.trans H; with_reducible exact H2_) | with_reducible exact H | (rw [hy108002]; exact H) | exact H
      have Ny108002 := Aside0.mk hy108002
      clear hy108002
      simp only [Option.some.injEq, Prod.mk.injEq] at H
      obtain ⟨rfl, rfl, rfl, rfl⟩ := H
      go_enter Try.func107, Try.ntmps107
      go_wp2_with (first | ((with_reducible refine gate_dst (N := 6) rfl ?_); refine box_event ?hg (N := 6) ?hd (cs := #[.int .i64 0, .int .i64 0, .int .i64 0, .slice none 0 0]) (t := 28) ?hr ?_; (case hd => rfl); (case hg => rfl); (case hr => first | (go_simp; done) | (go_simp; rfl)); intro gb108001 hg w7 hbox hb; have n0_ := Aside0.mk (below_step (by repeat (first | (with_reducible first | exact HB.out | apply below_alloc | apply pw_below_drewN | apply below_drew1) | exact HB.out)) hb); have n1_ := Aside0.mk (hbox); have n2_ := Aside0.mk ((by rw [hg]; exact (below_size (by repeat (first | (with_reducible first | exact HB.out | apply below_alloc | apply pw_below_drewN | apply below_drew1) | exact HB.out))) : w.heap.size ≤ gb108001)); have n3_ := Aside0.mk ((by rw [hg]; exact (below_size (by repeat (first | (with_reducible first | exact HB.out | apply below_alloc | apply pw_below_drewN | apply below_drew1) | exact HB.out))) : w.heap.size ≤ gb108001)); clear HB; have HB := n0_; have BK108001 := n1_; have GW108001 := n2_; have GE108001 := n3_; clear n0_ n1_ n2_ n3_; clear hb hbox hg) | ((with_reducible refine gate_dst (N := 15) rfl ?_); refine Kd.R_make (Kd.int .i64) _ 3 rfl (N := 15) rfl 22 _ _ rfl ji4 rfl rfl Try.underlying22 (.int .i64 0) 8 info3 rfl (by decide) (by omega) 0 (ok := fun _ => True) (okp := fun _ => True) rfl (fun _ hk => hk) trivial (of_decide_eq_true (by first | (with_reducible assumption) | assumption)) (Nat.le_trans (Nat.mul_le_mul_right _ (of_decide_eq_true (by first | (with_reducible assumption) | assumption) : ji4.toNat ≤ 35184372088832)) (by omega)) (Below.refl _ _) (Nat.le_refl _) ?_; intro v108003 w8 ho9 hb hg_ hnew_; clear hg_ hnew_; (first | rw [← Ny108002.out] at ho9 | (simp only [Int.reduceToNat] at ho9; rw [← Ny108002.out] at ho9)); have n0_ := Aside0.mk (Kd.R_lower ho9 (below_size (by repeat (first | (with_reducible first | exact HB.out | apply below_alloc | apply pw_below_drewN | apply below_drew1 | refine below_set ?_ GE108001.out) | exact HB.out)))); have n1_ := Aside0.mk (blk_below (g := gb108001) (o := .cells #[.int .i64 0, .int .i64 0, .int .i64 0, .slice none 0 0] 28 (0, 0)) (by (with_reducible repeat (first | refine blk_drewN ?_ _ | refine blk_drew ?_ | refine blk_alloc ?_ _)); exact BK108001.out) hb); have n2_ := Aside0.mk (below_step (by repeat (first | (with_reducible first | exact HB.out | apply below_alloc | apply pw_below_drewN | apply below_drew1 | refine below_set ?_ GE108001.out) | exact HB.out)) hb); clear BK108001; clear HB; have HO108004 := n0_; have BK108001 := n1_; have HB := n2_; clear n0_ n1_ n2_; clear hb ho9; obtain ⟨Ao10, co10, eo10⟩ := Kd.R_slice HO108004.out; subst eo10; have hcz11_0 : w8.cell? ⟨gb108001, 0, none⟩ = some (.int .i64 0) := (blk_cell BK108001.out 0).trans rfl; have hcz11_1 : w8.cell? ⟨gb108001, 1, none⟩ = some (.int .i64 0) := (blk_cell BK108001.out 1).trans rfl; have hcz11_2 : w8.cell? ⟨gb108001, 2, none⟩ = some (.int .i64 0) := (blk_cell BK108001.out 2).trans rfl; have hcz11_3 : w8.cell? ⟨gb108001, 3, none⟩ = some (.slice none 0 0) := (blk_cell BK108001.out 3).trans rfl; have hfz11_0 := blk_frozen BK108001.out 0; have hfz11_1 := blk_frozen BK108001.out 1; have hfz11_2 := blk_frozen BK108001.out 2; have hfz11_3 := blk_frozen BK108001.out 3))
      refine bodyPost_ret (results_cell_row rfl _ _ gb108001 28 #[.int .i64 a0, .int .i64 a1, .int .i64 a2, .slice Ao10 y108002.length co10] (0, 0) _ rfl (by (with_reducible repeat (first | refine blk_drewN ?_ _ | refine blk_drew ?_ | refine blk_alloc ?_ _)); refine blk_put (cs := #[.int .i64 a0, .int .i64 a1, .int .i64 a2, .slice none 0 0]) ?_ 3 _ rfl; (with_reducible repeat (first | refine blk_drewN ?_ _ | refine blk_drew ?_ | refine blk_alloc ?_ _)); refine blk_put (cs := #[.int .i64 a0, .int .i64 a1, .int .i64 0, .slice none 0 0]) ?_ 2 _ rfl; (with_reducible repeat (first | refine blk_drewN ?_ _ | refine blk_drew ?_ | refine blk_alloc ?_ _)); refine blk_put (cs := #[.int .i64 a0, .int .i64 0, .int .i64 0, .slice none 0 0]) ?_ 1 _ rfl; (with_reducible repeat (first | refine blk_drewN ?_ _ | refine blk_drew ?_ | refine blk_alloc ?_ _)); refine blk_put (cs := #[.int .i64 0, .int .i64 0, .int .i64 0, .slice none 0 0]) ?_ 0 _ rfl; (with_reducible repeat (first | refine blk_drewN ?_ _ | refine blk_drew ?_ | refine blk_alloc ?_ _)); exact BK108001.out) Try.underlying28 rfl (by kernel_rfl)) rfl ?_
      exact ⟨_, by first | rfl | (simp [errW_none, errW_some] <;> rfl) | (simp only [← hji4]; first | rfl | (simp [errW_none, errW_some] <;> rfl)) | (simp [*, errW_none, errW_some] <;> rfl), by (with_reducible repeat (first | apply Kd.R_alloc | apply Kd.R_drewN | apply Kd.R_drew)); exact Kd.R_mono (Kd.R_far (p := ⟨gb108001, 3, none⟩) (Kd.R_far (p := ⟨gb108001, 2, none⟩) (Kd.R_far (p := ⟨gb108001, 1, none⟩) (Kd.R_far (p := ⟨gb108001, 0, none⟩) (Kd.R_types HO108004.out BK108001.out (by decide)) (fun _ hk => hk.2) (.int .i64 a0)) (fun _ hk => hk.2) (.int .i64 a1)) (fun _ hk => hk.2) (.int .i64 a2)) (fun _ hk => hk.2) (.slice Ao10 y108002.length co10)) (fun _ hk => trivial), by repeat (first | (with_reducible first | exact HB.out | apply below_alloc | apply pw_below_drewN | apply below_drew1 | refine below_set ?_ GE108001.out) | exact HB.out)⟩
    · rw [if_neg c6] at H
      exact absurd H (by simp)
  · rw [if_neg c5] at H
    exact absurd H (by simp)


def spec_randomImage.l0 : Nat → Int → Int → Int → List Int → Int → Int → Int → Int → List Int → Option (Int × Int × Int × List Int × Int)
  | 0, _, _, _, _, _, _, _, _, _ => none
  | k + 1, x6, x7, x8, x1000, x1001, x101019000, x101019001, x101019002, x101019003 => if x8 < (x101019003.length : Int) then (if x6 = 0 then ((spec_reader_pick.f k x1000 x1001 256).bind fun bt101023 => (if 0 ≤ x8 then (spec_randomImage.l0 k x6 bt101023.1 (wrap64 (x8 + 1)) x1000 bt101023.2 x101019000 x101019001 x101019002 (x101019003.set (x8 : Int).toNat bt101023.1)) else none)) else (if x6 = 1 then ((spec_reader_pick.f k x1000 x1001 5).bind fun bt101026 => (if 0 ≤ x8 then (spec_randomImage.l0 k x6 (Int.tmod (wrap64 ((wrap64 (x7 + bt101026.1)) + 254)) 256) (wrap64 (x8 + 1)) x1000 bt101026.2 x101019000 x101019001 x101019002 (x101019003.set (x8 : Int).toNat (Int.tmod (wrap64 ((wrap64 (x7 + bt101026.1)) + 254)) 256))) else none)) else (if x6 = 2 then ((spec_reader_pick.f k x1000 x1001 4).bind fun bt101029 => (if 0 ≤ x8 then (spec_randomImage.l0 k x6 (wrap64 (60 * bt101029.1)) (wrap64 (x8 + 1)) x1000 bt101029.2 x101019000 x101019001 x101019002 (x101019003.set (x8 : Int).toNat (wrap64 (60 * bt101029.1)))) else none)) else (if 0 ≤ x8 then (spec_randomImage.l0 k x6 x7 (wrap64 (x8 + 1)) x1000 x1001 x101019000 x101019001 x101019002 (x101019003.set (x8 : Int).toNat x7)) else none)))) else (some (x101019000, x101019001, x101019002, x101019003, x1001))
def spec_randomImage.f (k : Nat) (s0_0 : List Int) (s0_1 : Int) (a1 : Int) : Option (Int × Int × Int × List Int × Int) := (spec_reader_one.f k s0_0 s0_1 ([3, 4, 2, 5, 1, 8, 6] : List Int)).bind fun bt101005 => ((spec_reader_one.f k s0_0 bt101005.2 ([3, 2, 4, 1, 5, 8] : List Int)).bind fun bt101010 => ((spec_newImage.f bt101005.1 bt101010.1 a1).bind fun bt101012 => ((spec_reader_pick.f k s0_0 bt101010.2 4).bind fun bt101019 => ((spec_reader_pick.f k s0_0 bt101019.2 256).bind fun bt101021 => (spec_randomImage.l0 k bt101019.1 bt101021.1 0 s0_0 bt101021.2 bt101012.1 bt101012.2.1 bt101012.2.2.1 bt101012.2.2.2)))))
theorem spec_randomImage.mono_l : ∀ k, (∀ y0 y1 y2 y3 y4 y5 y6 y7 y8, LeO (spec_randomImage.l0 k y0 y1 y2 y3 y4 y5 y6 y7 y8) (spec_randomImage.l0 (k + 1) y0 y1 y2 y3 y4 y5 y6 y7 y8))
  | 0 => fun _ _ _ _ _ _ _ _ _ r h => by simp [spec_randomImage.l0] at h
  | k + 1 => by
    have ih0 := spec_randomImage.mono_l k
    · intro y0 y1 y2 y3 y4 y5 y6 y7 y8
      unfold spec_randomImage.l0
      repeat' first | (with_reducible exact ih0 _ _ _ _ _ _ _ _ _) | (with_reducible exact spec_reader_pick.mono _ _ _ _) | (with_reducible exact LeO.refl _) | (with_reducible refine LeO.ite ?_ ?_) | (with_reducible refine LeO.bind ?_ (fun _ => ?_))
theorem spec_randomImage.mono : ∀ a0 a1 a2 k, LeO (spec_randomImage.f k a0 a1 a2) (spec_randomImage.f (k + 1) a0 a1 a2) := by
  intro a0 a1 a2 k
  have ih0 := spec_randomImage.mono_l k
  unfold spec_randomImage.f
  repeat' first | (with_reducible exact ih0 _ _ _ _ _ _ _ _ _) | (with_reducible exact spec_reader_one.mono _ _ _ _) | (with_reducible exact spec_reader_pick.mono _ _ _ _) | (with_reducible exact LeO.refl _) | (with_reducible refine LeO.bind ?_ (fun _ => ?_))
set_option maxHeartbeats 8000000 in
set_option maxRecDepth 100000 in
theorem spec_randomImage.calls (k : Nat) (g : Nat) (s0_0 : List Int) (s0_1 : Int) (a1 : Int) (r1 : Int) (r2 : Int) (r3 : Int) (r4 : List Int) (r5 : Int) (w0 w : World) (hI : IsS100 w0 w g s0_0 s0_1) (hB : Below w0.heap.size w0 w) (h : spec_randomImage.f k s0_0 s0_1 a1 = some (r1, r2, r3, r4, r5)) :
    Calls Try.prog 100 #[.pointer (some ⟨g, 0, none⟩), .int .i64 a1] w fun e w' => ∃ v3_ : Value, e = .returned (.agg #[.int .i64 r1, .int .i64 r2, .int .i64 r3, v3_]) ∧ Kd.R (Kd.int .i64) 3 w' w.heap.size (fun _ => True) v3_ r4 ∧ IsS100 w0 w' g s0_0 r5 ∧ Below w0.heap.size w0 w' ∧ KeepBut w w' g none := by
  have hu28 := Try.underlying28
  have HI0 := Aside0.mk hI
  have HK := Aside0.mk (KeepBut.refl w g none)
  have HL := Aside0.mk hB.size
  clear hI
  have HW0 := Aside0.mk hB.size
  have HB := Aside0.mk hB
  clear hB
  have H : ((spec_reader_one.f k s0_0 s0_1 ([3, 4, 2, 5, 1, 8, 6] : List Int)).bind fun bt101005 => ((spec_reader_one.f k s0_0 bt101005.2 ([3, 2, 4, 1, 5, 8] : List Int)).bind fun bt101010 => ((spec_newImage.f bt101005.1 bt101010.1 a1).bind fun bt101012 => ((spec_reader_pick.f k s0_0 bt101010.2 4).bind fun bt101019 => ((spec_reader_pick.f k s0_0 bt101019.2 256).bind fun bt101021 => (spec_randomImage.l0 k bt101019.1 bt101021.1 0 s0_0 bt101021.2 bt101012.1 bt101012.2.1 bt101012.2.2.1 bt101012.2.2.2)))))) = some (r1, r2, r3, r4, r5) := h
  clear h
  obtain ⟨y101002, hy101002⟩ : ∃ y_ : List Int, y_ = ([3, 4, 2, 5, 1, 8, 6] : List Int) := ⟨_, rfl⟩
  replace H : ((spec_reader_one.f k s0_0 s0_1 y101002).bind fun bt101005 => ((spec_reader_one.f k s0_0 bt101005.2 ([3, 2, 4, 1, 5, 8] : List Int)).bind fun bt101010 => ((spec_newImage.f bt101005.1 bt101010.1 a1).bind fun bt101012 => ((spec_reader_pick.f k s0_0 bt101010.2 4).bind fun bt101019 => ((spec_reader_pick.f k s0_0 bt101019.2 256).bind fun bt101021 => (spec_randomImage.l0 k bt101019.1 bt101021.1 0 s0_0 bt101021.2 bt101012.1 bt101012.2.1 bt101012.2.2.1 bt101012.2.2.2)))))) = some (r1, r2, r3, r4, r5) := by (rw [hy101002]; with_reducible exact H)
  have Ny101002 := Aside0.mk hy101002
  clear hy101002
  replace H := Option.bind_eq_some_iff.mp H
  obtain ⟨⟨t101005, t101006⟩, A30, H⟩ := H
  replace H : ((spec_reader_one.f k s0_0 t101006 ([3, 2, 4, 1, 5, 8] : List Int)).bind fun bt101010 => ((spec_newImage.f t101005 bt101010.1 a1).bind fun bt101012 => ((spec_reader_pick.f k s0_0 bt101010.2 4).bind fun bt101019 => ((spec_reader_pick.f k s0_0 bt101019.2 256).bind fun bt101021 => (spec_randomImage.l0 k bt101019.1 bt101021.1 0 s0_0 bt101021.2 bt101012.1 bt101012.2.1 bt101012.2.2.1 bt101012.2.2.2))))) = some (r1, r2, r3, r4, r5) := H
  have A3 := Aside0.mk A30
  clear A30
  obtain ⟨y101007, hy101007⟩ : ∃ y_ : List Int, y_ = ([3, 2, 4, 1, 5, 8] : List Int) := ⟨_, rfl⟩
  replace H : ((spec_reader_one.f k s0_0 t101006 y101007).bind fun bt101010 => ((spec_newImage.f t101005 bt101010.1 a1).bind fun bt101012 => ((spec_reader_pick.f k s0_0 bt101010.2 4).bind fun bt101019 => ((spec_reader_pick.f k s0_0 bt101019.2 256).bind fun bt101021 => (spec_randomImage.l0 k bt101019.1 bt101021.1 0 s0_0 bt101021.2 bt101012.1 bt101012.2.1 bt101012.2.2.1 bt101012.2.2.2))))) = some (r1, r2, r3, r4, r5) := by (rw [hy101007]; with_reducible exact H)
  have Ny101007 := Aside0.mk hy101007
  clear hy101007
  replace H := Option.bind_eq_some_iff.mp H
  obtain ⟨⟨t101010, t101011⟩, A40, H⟩ := H
  replace H : ((spec_newImage.f t101005 t101010 a1).bind fun bt101012 => ((spec_reader_pick.f k s0_0 t101011 4).bind fun bt101019 => ((spec_reader_pick.f k s0_0 bt101019.2 256).bind fun bt101021 => (spec_randomImage.l0 k bt101019.1 bt101021.1 0 s0_0 bt101021.2 bt101012.1 bt101012.2.1 bt101012.2.2.1 bt101012.2.2.2)))) = some (r1, r2, r3, r4, r5) := H
  have A4 := Aside0.mk A40
  clear A40
  replace H := Option.bind_eq_some_iff.mp H
  obtain ⟨⟨t101012, t101013, t101014, t101015⟩, A50, H⟩ := H
  replace H : ((spec_reader_pick.f k s0_0 t101011 4).bind fun bt101019 => ((spec_reader_pick.f k s0_0 bt101019.2 256).bind fun bt101021 => (spec_randomImage.l0 k bt101019.1 bt101021.1 0 s0_0 bt101021.2 t101012 t101013 t101014 t101015))) = some (r1, r2, r3, r4, r5) := H
  have A5 := Aside0.mk A50
  clear A50
  replace H := Option.bind_eq_some_iff.mp H
  obtain ⟨⟨t101019, t101020⟩, A60, H⟩ := H
  replace H : ((spec_reader_pick.f k s0_0 t101020 256).bind fun bt101021 => (spec_randomImage.l0 k t101019 bt101021.1 0 s0_0 bt101021.2 t101012 t101013 t101014 t101015)) = some (r1, r2, r3, r4, r5) := H
  have A6 := Aside0.mk A60
  clear A60
  replace H := Option.bind_eq_some_iff.mp H
  obtain ⟨⟨t101021, t101022⟩, A70, H⟩ := H
  replace H : (spec_randomImage.l0 k t101019 t101021 0 s0_0 t101022 t101012 t101013 t101014 t101015) = some (r1, r2, r3, r4, r5) := H
  have A7 := Aside0.mk A70
  clear A70
  have H' := Aside0.mk H
  clear H
  go_enter Try.func100, Try.ntmps100
  go_wp2_with (first | ((with_reducible refine gate_dst (N := 4) rfl ?_); refine box_event ?hg (N := 4) ?hd (cs := #[.int .i64 0, .int .i64 0, .int .i64 0, .slice none 0 0]) (t := 28) ?hr ?_; (case hd => rfl); (case hg => rfl); (case hr => (go_simp; done)); intro gb101001 hg w8 hbox hb; have n0_ := Aside0.mk (IsS100.below HI0.out hb); have n1_ := Aside0.mk (KeepBut.trans HK.out (KeepBut.of_below hb g none) (.inl rfl)); have n2_ := Aside0.mk (below_step HB.out hb); have n3_ := Aside0.mk (hbox); have n4_ := Aside0.mk ((by rw [hg]; exact (keep_size (w := w) (g := g) (row := none) HK.out) : w.heap.size ≤ gb101001)); have n5_ := Aside0.mk ((Nat.le_trans HW0.out (by rw [hg]; exact (keep_size (w := w) (g := g) (row := none) HK.out) : w.heap.size ≤ gb101001) : w0.heap.size ≤ gb101001)); have n6_ := Aside0.mk ((by rw [hg]; exact Nat.ne_of_lt (IsS100.lt (show IsS100 w0 _ g s0_0 s0_1 from by exact HI0.out)) : g ≠ gb101001)); have n7_ := Aside0.mk ((by rw [hg]; exact Nat.ne_of_gt (IsS100.lt (show IsS100 w0 _ g s0_0 s0_1 from by exact HI0.out)) : gb101001 ≠ g)); clear HI0; clear HK; clear HB; have HI0 := n0_; have HK := n1_; have HB := n2_; have BK101001 := n3_; have GW101001 := n4_; have GE101001 := n5_; have NB0_101001 := n6_; have NB101001_0 := n7_; clear n0_ n1_ n2_ n3_ n4_ n5_ n6_ n7_; clear hb hbox hg) | ((with_reducible refine gate_dst (N := 10) rfl ?_); refine Kd.R_lit (Kd.int .i64) _ 3 ?hg (N := 10) ?hd (xs := ([3, 4, 2, 5, 1, 8, 6] : List Int)) (inner := [.int .i64 3, .int .i64 4, .int .i64 2, .int .i64 5, .int .i64 1, .int .i64 8, .int .i64 6]) (ok := fun _ => True) (okp := fun _ => True) ?hr ?hp (fun _ hk => hk) trivial (Below.refl _ _) (Nat.le_refl _) (by simp) ?_; (case hd => rfl); (case hg => rfl); (case hr => (go_simp; done)); (case hp => exact (Reps.one (show Kd.M (Kd.int .i64) _ _ _ 3 [.int .i64 3] from rfl) (Reps.one (show Kd.M (Kd.int .i64) _ _ _ 4 [.int .i64 4] from rfl) (Reps.one (show Kd.M (Kd.int .i64) _ _ _ 2 [.int .i64 2] from rfl) (Reps.one (show Kd.M (Kd.int .i64) _ _ _ 5 [.int .i64 5] from rfl) (Reps.one (show Kd.M (Kd.int .i64) _ _ _ 1 [.int .i64 1] from rfl) (Reps.one (show Kd.M (Kd.int .i64) _ _ _ 8 [.int .i64 8] from rfl) (Reps.one (show Kd.M (Kd.int .i64) _ _ _ 6 [.int .i64 6] from rfl) (Reps.none _ _))))))))); intro v101003 w9 ho10 hb hg_ hnew_; clear hg_ hnew_; (rw [← Ny101002.out] at ho10); have n0_ := Aside0.mk (Kd.R_lower ho10 (keep_size (w := w) (g := g) (row := none) HK.out)); have n1_ := Aside0.mk (IsS100.below HI0.out hb); have n2_ := Aside0.mk (blk_below BK101001.out hb); have n3_ := Aside0.mk (KeepBut.trans HK.out (KeepBut.of_below hb g none) (.inl rfl)); have n4_ := Aside0.mk (below_step HB.out hb); clear HI0; clear BK101001; clear HK; clear HB; have HO101004 := n0_; have HI0 := n1_; have BK101001 := n2_; have HK := n3_; have HB := n4_; clear n0_ n1_ n2_ n3_ n4_; clear hb ho10; obtain ⟨Ao11, co11, eo11⟩ := Kd.R_slice HO101004.out; subst eo11) | ((with_reducible refine gate_callee (f := 73) rfl ?_); refine goesL_ (some 11) rfl rfl Try.func73 (by kernel_rfl) rfl #[.pointer (some ⟨g, 0, none⟩), .slice Ao11 y101002.length co11] rfl (by (try simp only [List.map_toArray, List.map_cons, List.map_nil]); rfl) ?_; (with_reducible refine (spec_reader_one.calls k g s0_0 s0_1 _ _ y101002 t101005 t101006 w0 _ ?side1 ?side2 ?side3 ?side4 ?side5 A3.out).mono ?_); (case side1 => repeat (with_reducible exact HI0.out)); (case side2 => repeat (with_reducible exact HB.out)); (case side3 => repeat (exact (Kd.R_reads' HO101004.out).2.2)); (case side4 => exact (Kd.R_reads' HO101004.out).2.1); (case side5 => exact far_slice (IsS100.own_ne HI0.out HO101004.out (by decide))); rintro e w12 ⟨rfl, hi, hb, hk⟩; refine ⟨_, rfl, ?_⟩; have n0_ := Aside0.mk (KeepBut.blk hk (g' := gb101001) (o := .cells #[.int .i64 0, .int .i64 0, .int .i64 0, .slice none 0 0] 28 (0, 0)) BK101001.out NB101001_0.out (by simp)); have n1_ := Aside0.mk (Kd.R_mono (Kd.R_keep (IsS100.apart (show IsS100 w0 _ g s0_0 s0_1 from by exact HI0.out) HO101004.out (by decide)) hk (fun _ h => h.2)) (fun _ h => h.1)); have n2_ := Aside0.mk (KeepBut.trans HK.out hk (.inl rfl)); have n3_ := Aside0.mk (hb); have n4_ := Aside0.mk (hi); clear BK101001; clear HO101004; clear HK; clear HB; clear HI0; have BK101001 := n0_; have HO101004 := n1_; have HK := n2_; have HB := n3_; have HI0 := n4_; clear n0_ n1_ n2_ n3_ n4_; (try clear hb); (try clear hk); (try clear hi)) | ((with_reducible refine gate_dst (N := 13) rfl ?_); refine Kd.R_lit (Kd.int .i64) _ 3 ?hg (N := 13) ?hd (xs := ([3, 2, 4, 1, 5, 8] : List Int)) (inner := [.int .i64 3, .int .i64 2, .int .i64 4, .int .i64 1, .int .i64 5, .int .i64 8]) (ok := fun _ => True) (okp := fun _ => True) ?hr ?hp (fun _ hk => hk) trivial (Below.refl _ _) (Nat.le_refl _) (by simp) ?_; (case hd => rfl); (case hg => rfl); (case hr => (go_simp; done)); (case hp => exact (Reps.one (show Kd.M (Kd.int .i64) _ _ _ 3 [.int .i64 3] from rfl) (Reps.one (show Kd.M (Kd.int .i64) _ _ _ 2 [.int .i64 2] from rfl) (Reps.one (show Kd.M (Kd.int .i64) _ _ _ 4 [.int .i64 4] from rfl) (Reps.one (show Kd.M (Kd.int .i64) _ _ _ 1 [.int .i64 1] from rfl) (Reps.one (show Kd.M (Kd.int .i64) _ _ _ 5 [.int .i64 5] from rfl) (Reps.one (show Kd.M (Kd.int .i64) _ _ _ 8 [.int .i64 8] from rfl) (Reps.none _ _)))))))); intro v101008 w13 ho14 hb hg_ hnew_; clear hg_ hnew_; (rw [← Ny101007.out] at ho14); have n0_ := Aside0.mk (Kd.R_elder' HO101004.out (Kd.R_base ho14) hb); have n1_ := Aside0.mk (Kd.R_lower (Kd.R_new' ho14 (Kd.R_lt HO101004.out)) (keep_size (w := w) (g := g) (row := none) HK.out)); have n2_ := Aside0.mk (IsS100.below HI0.out hb); have n3_ := Aside0.mk (blk_below BK101001.out hb); have n4_ := Aside0.mk (KeepBut.trans HK.out (KeepBut.of_below hb g none) (.inl rfl)); have n5_ := Aside0.mk (below_step HB.out hb); clear HO101004; clear HI0; clear BK101001; clear HK; clear HB; have HO101004 := n0_; have HO101009 := n1_; have HI0 := n2_; have BK101001 := n3_; have HK := n4_; have HB := n5_; clear n0_ n1_ n2_ n3_ n4_ n5_; clear hb ho14; obtain ⟨Ao15, co15, eo15⟩ := Kd.R_slice HO101009.out; subst eo15) | ((with_reducible refine gate_callee (f := 73) rfl ?_); refine goesL_ (some 14) rfl rfl Try.func73 (by kernel_rfl) rfl #[.pointer (some ⟨g, 0, none⟩), .slice Ao15 y101007.length co15] rfl (by (try simp only [List.map_toArray, List.map_cons, List.map_nil]); rfl) ?_; (with_reducible refine (spec_reader_one.calls k g s0_0 t101006 _ _ y101007 t101010 t101011 w0 _ ?side1 ?side2 ?side3 ?side4 ?side5 A4.out).mono ?_); (case side1 => repeat (with_reducible exact HI0.out)); (case side2 => repeat (with_reducible exact HB.out)); (case side3 => repeat (exact (Kd.R_reads' HO101009.out).2.2)); (case side4 => exact (Kd.R_reads' HO101009.out).2.1); (case side5 => exact far_slice (IsS100.own_ne HI0.out HO101009.out (by decide))); rintro e w16 ⟨rfl, hi, hb, hk⟩; refine ⟨_, rfl, ?_⟩; have n0_ := Aside0.mk (KeepBut.blk hk (g' := gb101001) (o := .cells #[.int .i64 0, .int .i64 0, .int .i64 0, .slice none 0 0] 28 (0, 0)) BK101001.out NB101001_0.out (by simp)); have n1_ := Aside0.mk (Kd.R_mono (Kd.R_keep (IsS100.apart (show IsS100 w0 _ g s0_0 t101006 from by exact HI0.out) HO101004.out (by decide)) hk (fun _ h => h.2)) (fun _ h => h.1)); have n2_ := Aside0.mk (Kd.R_mono (Kd.R_keep (IsS100.apart (show IsS100 w0 _ g s0_0 t101006 from by exact HI0.out) HO101009.out (by decide)) hk (fun _ h => h.2)) (fun _ h => h.1)); have n3_ := Aside0.mk (KeepBut.trans HK.out hk (.inl rfl)); have n4_ := Aside0.mk (hb); have n5_ := Aside0.mk (hi); clear BK101001; clear HO101004; clear HO101009; clear HK; clear HB; clear HI0; have BK101001 := n0_; have HO101004 := n1_; have HO101009 := n2_; have HK := n3_; have HB := n4_; have HI0 := n5_; clear n0_ n1_ n2_ n3_ n4_ n5_; (try clear hb); (try clear hk); (try clear hi)) | ((with_reducible refine gate_callee (f := 107) rfl ?_); refine goesL_ (some 16) rfl rfl Try.func107 (by kernel_rfl) rfl #[.int .i64 t101005, .int .i64 t101010, .int .i64 a1] rfl (by (try simp only [List.map_toArray, List.map_cons, List.map_nil]); rfl) ?_; (with_reducible refine (spec_newImage.calls t101005 t101010 a1 t101012 t101013 t101014 t101015 _ A5.out).mono ?_); rintro e w17 ⟨v101016, rfl, ho0, hb⟩; refine ⟨_, rfl, ?_⟩; have n0_ := Aside0.mk (Kd.R_elder' HO101004.out (Kd.R_base ho0) hb); have n1_ := Aside0.mk (Kd.R_elder' HO101009.out (Kd.R_base ho0) hb); have n2_ := Aside0.mk (Kd.R_lower (Kd.R_new' (Kd.R_new' ho0 (Kd.R_lt HO101004.out)) (Kd.R_lt HO101009.out)) (keep_size (w := w) (g := g) (row := none) HK.out)); have n3_ := Aside0.mk (IsS100.below HI0.out hb); have n4_ := Aside0.mk (blk_below BK101001.out hb); have n5_ := Aside0.mk (KeepBut.trans HK.out (KeepBut.of_below hb g none) (.inl rfl)); have n6_ := Aside0.mk (below_step HB.out hb); clear HO101004; clear HO101009; clear HI0; clear BK101001; clear HK; clear HB; have HO101004 := n0_; have HO101009 := n1_; have HO101017 := n2_; have HI0 := n3_; have BK101001 := n4_; have HK := n5_; have HB := n6_; clear n0_ n1_ n2_ n3_ n4_ n5_ n6_; (try clear hb); (try clear ho0)) | ((with_reducible refine gate_dst (N := 5) rfl ?_); refine box_event ?hg (N := 5) ?hd (cs := #[.int .i64 0, .int .i64 0, .int .i64 0, .slice none 0 0]) (t := 28) ?hr ?_; (case hd => rfl); (case hg => rfl); (case hr => (go_simp; done)); intro gb101018 hg w18 hbox hb; have n0_ := Aside0.mk (Kd.R_below HO101004.out hb); have n1_ := Aside0.mk (Kd.R_below HO101009.out hb); have n2_ := Aside0.mk (Kd.R_below HO101017.out hb); have n3_ := Aside0.mk (IsS100.below HI0.out hb); have n4_ := Aside0.mk (blk_below BK101001.out hb); have n5_ := Aside0.mk (KeepBut.trans HK.out (KeepBut.of_below hb g none) (.inl rfl)); have n6_ := Aside0.mk (below_step HB.out hb); have n7_ := Aside0.mk (hbox); have n8_ := Aside0.mk ((by rw [hg]; exact (keep_size (w := w) (g := g) (row := none) HK.out) : w.heap.size ≤ gb101018)); have n9_ := Aside0.mk ((Nat.le_trans HW0.out (by rw [hg]; exact (keep_size (w := w) (g := g) (row := none) HK.out) : w.heap.size ≤ gb101018) : w0.heap.size ≤ gb101018)); have n10_ := Aside0.mk ((by rw [hg]; exact Nat.ne_of_lt (blk_lt BK101001.out) : gb101001 ≠ gb101018)); have n11_ := Aside0.mk ((by rw [hg]; exact Nat.ne_of_gt (blk_lt BK101001.out) : gb101018 ≠ gb101001)); have n12_ := Aside0.mk ((by rw [hg]; exact Nat.ne_of_lt (IsS100.lt (show IsS100 w0 _ g s0_0 t101011 from by exact HI0.out)) : g ≠ gb101018)); have n13_ := Aside0.mk ((by rw [hg]; exact Nat.ne_of_gt (IsS100.lt (show IsS100 w0 _ g s0_0 t101011 from by exact HI0.out)) : gb101018 ≠ g)); clear HO101004; clear HO101009; clear HO101017; clear HI0; clear BK101001; clear HK; clear HB; have HO101004 := n0_; have HO101009 := n1_; have HO101017 := n2_; have HI0 := n3_; have BK101001 := n4_; have HK := n5_; have HB := n6_; have BK101018 := n7_; have GW101018 := n8_; have GE101018 := n9_; have NB101001_101018 := n10_; have NB101018_101001 := n11_; have NB0_101018 := n12_; have NB101018_0 := n13_; clear n0_ n1_ n2_ n3_ n4_ n5_ n6_ n7_ n8_ n9_ n10_ n11_ n12_ n13_; clear hb hbox hg; have hnb19 := NB101018_101001.out; have hnc19 := NB101001_101018.out; have hnb20 := NB101018_0.out; have hnc20 := NB0_101018.out; have hcz21_0 : w18.cell? ⟨gb101018, 0, none⟩ = some (.int .i64 0) := (blk_cell BK101018.out 0).trans rfl; have hcz21_1 : w18.cell? ⟨gb101018, 1, none⟩ = some (.int .i64 0) := (blk_cell BK101018.out 1).trans rfl; have hcz21_2 : w18.cell? ⟨gb101018, 2, none⟩ = some (.int .i64 0) := (blk_cell BK101018.out 2).trans rfl; have hcz21_3 : w18.cell? ⟨gb101018, 3, none⟩ = some (.slice none 0 0) := (blk_cell BK101018.out 3).trans rfl; have hfz21_0 := blk_frozen BK101018.out 0; have hfz21_1 := blk_frozen BK101018.out 1; have hfz21_2 := blk_frozen BK101018.out 2; have hfz21_3 := blk_frozen BK101018.out 3; obtain ⟨Ao22, co22, eo22⟩ := Kd.R_slice HO101017.out; subst eo22) | ((with_reducible refine gate_callee (f := 82) rfl ?_); refine goesL_ (some 18) rfl rfl Try.func82 (by kernel_rfl) rfl #[.pointer (some ⟨g, 0, none⟩), .int .i64 4] rfl (by (try simp only [List.map_toArray, List.map_cons, List.map_nil]); rfl) ?_; (with_reducible refine (spec_reader_pick.calls k g s0_0 t101011 4 t101019 t101020 w0 _ ?side1 ?side2 A6.out).mono ?_); (case side1 => repeat (with_reducible first | exact HI0.out | refine IsS100.far ?_ NB0_101018.out _)); (case side2 => repeat (with_reducible first | exact HB.out | refine below_set ?_ GE101018.out)); rintro e w23 ⟨rfl, hi, hb, hk⟩; refine ⟨_, rfl, ?_⟩; have n0_ := Aside0.mk (KeepBut.blk hk (g' := gb101001) (o := .cells #[.int .i64 0, .int .i64 0, .int .i64 0, .slice none 0 0] 28 (0, 0)) (by refine blk_far ?_ NB101001_101018.out _; (with_reducible repeat (first | refine blk_drewN ?_ _ | refine blk_drew ?_ | refine blk_alloc ?_ _)); refine blk_far ?_ NB101001_101018.out _; (with_reducible repeat (first | refine blk_drewN ?_ _ | refine blk_drew ?_ | refine blk_alloc ?_ _)); refine blk_far ?_ NB101001_101018.out _; (with_reducible repeat (first | refine blk_drewN ?_ _ | refine blk_drew ?_ | refine blk_alloc ?_ _)); refine blk_far ?_ NB101001_101018.out _; (with_reducible repeat (first | refine blk_drewN ?_ _ | refine blk_drew ?_ | refine blk_alloc ?_ _)); exact BK101001.out) NB101001_0.out (by simp)); have n1_ := Aside0.mk (Kd.R_mono (Kd.R_keep (IsS100.apart (show IsS100 w0 _ g s0_0 t101011 from by repeat (with_reducible first | exact HI0.out | refine IsS100.far ?_ NB0_101018.out _)) (by exact (Kd.R_mono (Kd.R_far (p := ⟨gb101018, 3, none⟩) (Kd.R_far (p := ⟨gb101018, 2, none⟩) (Kd.R_far (p := ⟨gb101018, 1, none⟩) (Kd.R_far (p := ⟨gb101018, 0, none⟩) (Kd.R_types HO101004.out BK101018.out (by decide)) (fun _ hk => hk.2) (.int .i64 t101012)) (fun _ hk => hk.2) (.int .i64 t101013)) (fun _ hk => hk.2) (.int .i64 t101014)) (fun _ hk => hk.2) (.slice Ao22 t101015.length co22)) (fun _ h_ => h_.1))) (by decide)) hk (fun _ h => h.2)) (fun _ h => h.1)); have n2_ := Aside0.mk (Kd.R_mono (Kd.R_keep (IsS100.apart (show IsS100 w0 _ g s0_0 t101011 from by repeat (with_reducible first | exact HI0.out | refine IsS100.far ?_ NB0_101018.out _)) (by exact (Kd.R_mono (Kd.R_far (p := ⟨gb101018, 3, none⟩) (Kd.R_far (p := ⟨gb101018, 2, none⟩) (Kd.R_far (p := ⟨gb101018, 1, none⟩) (Kd.R_far (p := ⟨gb101018, 0, none⟩) (Kd.R_types HO101009.out BK101018.out (by decide)) (fun _ hk => hk.2) (.int .i64 t101012)) (fun _ hk => hk.2) (.int .i64 t101013)) (fun _ hk => hk.2) (.int .i64 t101014)) (fun _ hk => hk.2) (.slice Ao22 t101015.length co22)) (fun _ h_ => h_.1))) (by decide)) hk (fun _ h => h.2)) (fun _ h => h.1)); have n3_ := Aside0.mk (Kd.R_mono (Kd.R_keep (IsS100.apart (show IsS100 w0 _ g s0_0 t101011 from by repeat (with_reducible first | exact HI0.out | refine IsS100.far ?_ NB0_101018.out _)) (by exact (Kd.R_mono (Kd.R_far (p := ⟨gb101018, 3, none⟩) (Kd.R_far (p := ⟨gb101018, 2, none⟩) (Kd.R_far (p := ⟨gb101018, 1, none⟩) (Kd.R_far (p := ⟨gb101018, 0, none⟩) (Kd.R_types HO101017.out BK101018.out (by decide)) (fun _ hk => hk.2) (.int .i64 t101012)) (fun _ hk => hk.2) (.int .i64 t101013)) (fun _ hk => hk.2) (.int .i64 t101014)) (fun _ hk => hk.2) (.slice Ao22 t101015.length co22)) (fun _ h_ => h_.1))) (by decide)) hk (fun _ h => h.2)) (fun _ h => h.1)); have n4_ := Aside0.mk (KeepBut.blk hk (g' := gb101018) (o := .cells #[.int .i64 t101012, .int .i64 t101013, .int .i64 t101014, .slice Ao22 t101015.length co22] 28 (0, 0)) (by refine blk_put (cs := #[.int .i64 t101012, .int .i64 t101013, .int .i64 t101014, .slice none 0 0]) ?_ 3 _ rfl; (with_reducible repeat (first | refine blk_drewN ?_ _ | refine blk_drew ?_ | refine blk_alloc ?_ _)); refine blk_put (cs := #[.int .i64 t101012, .int .i64 t101013, .int .i64 0, .slice none 0 0]) ?_ 2 _ rfl; (with_reducible repeat (first | refine blk_drewN ?_ _ | refine blk_drew ?_ | refine blk_alloc ?_ _)); refine blk_put (cs := #[.int .i64 t101012, .int .i64 0, .int .i64 0, .slice none 0 0]) ?_ 1 _ rfl; (with_reducible repeat (first | refine blk_drewN ?_ _ | refine blk_drew ?_ | refine blk_alloc ?_ _)); refine blk_put (cs := #[.int .i64 0, .int .i64 0, .int .i64 0, .slice none 0 0]) ?_ 0 _ rfl; (with_reducible repeat (first | refine blk_drewN ?_ _ | refine blk_drew ?_ | refine blk_alloc ?_ _)); exact BK101018.out) NB101018_0.out (by simp)); have n5_ := Aside0.mk (KeepBut.trans (by repeat (with_reducible first | exact HK.out | refine keep_far ?_ GW101018.out _)) hk (.inl rfl)); have n6_ := Aside0.mk (hb); have n7_ := Aside0.mk (hi); clear BK101001; clear HO101004; clear HO101009; clear HO101017; clear BK101018; clear HK; clear HB; clear HI0; have BK101001 := n0_; have HO101004 := n1_; have HO101009 := n2_; have HO101017 := n3_; have BK101018 := n4_; have HK := n5_; have HB := n6_; have HI0 := n7_; clear n0_ n1_ n2_ n3_ n4_ n5_ n6_ n7_; (try clear hb); (try clear hk); (try clear hi)) | ((with_reducible refine gate_callee (f := 82) rfl ?_); refine goesL_ (some 20) rfl rfl Try.func82 (by kernel_rfl) rfl #[.pointer (some ⟨g, 0, none⟩), .int .i64 256] rfl (by (try simp only [List.map_toArray, List.map_cons, List.map_nil]); rfl) ?_; (with_reducible refine (spec_reader_pick.calls k g s0_0 t101020 256 t101021 t101022 w0 _ ?side1 ?side2 A7.out).mono ?_); (case side1 => repeat (with_reducible exact HI0.out)); (case side2 => repeat (with_reducible exact HB.out)); rintro e w24 ⟨rfl, hi, hb, hk⟩; refine ⟨_, rfl, ?_⟩; have n0_ := Aside0.mk (KeepBut.blk hk (g' := gb101001) (o := .cells #[.int .i64 0, .int .i64 0, .int .i64 0, .slice none 0 0] 28 (0, 0)) BK101001.out NB101001_0.out (by simp)); have n1_ := Aside0.mk (Kd.R_mono (Kd.R_keep (IsS100.apart (show IsS100 w0 _ g s0_0 t101020 from by exact HI0.out) HO101004.out (by decide)) hk (fun _ h => h.2)) (fun _ h => h.1)); have n2_ := Aside0.mk (Kd.R_mono (Kd.R_keep (IsS100.apart (show IsS100 w0 _ g s0_0 t101020 from by exact HI0.out) HO101009.out (by decide)) hk (fun _ h => h.2)) (fun _ h => h.1)); have n3_ := Aside0.mk (Kd.R_mono (Kd.R_keep (IsS100.apart (show IsS100 w0 _ g s0_0 t101020 from by exact HI0.out) HO101017.out (by decide)) hk (fun _ h => h.2)) (fun _ h => h.1)); have n4_ := Aside0.mk (KeepBut.blk hk (g' := gb101018) (o := .cells #[.int .i64 t101012, .int .i64 t101013, .int .i64 t101014, .slice Ao22 t101015.length co22] 28 (0, 0)) BK101018.out NB101018_0.out (by simp)); have n5_ := Aside0.mk (KeepBut.trans HK.out hk (.inl rfl)); have n6_ := Aside0.mk (hb); have n7_ := Aside0.mk (hi); clear BK101001; clear HO101004; clear HO101009; clear HO101017; clear BK101018; clear HK; clear HB; clear HI0; have BK101001 := n0_; have HO101004 := n1_; have HO101009 := n2_; have HO101017 := n3_; have BK101018 := n4_; have HK := n5_; have HB := n6_; have HI0 := n7_; clear n0_ n1_ n2_ n3_ n4_ n5_ n6_ n7_; (try clear hb); (try clear hk); (try clear hi)))
  go_loopg [7, 8] k (fun kq v7 v8 w' => ∃ (x7_1 : Int) (x8_1 : Int) (x1001_1 : Int) (x101019003_1 : List Int) (u101019003 : Value), v7 = .int .i64 x7_1 ∧ v8 = .int .i64 x8_1 ∧ Aside0 (spec_randomImage.l0 kq t101019 x7_1 x8_1 s0_0 x1001_1 t101012 t101013 t101014 x101019003_1 = some (r1, r2, r3, r4, r5)) ∧ Aside0 (kq ≤ k) ∧ Aside0 (Kd.R (Kd.int .i64) 3 w' w.heap.size (fun _ => True) u101019003 x101019003_1) ∧ Aside0 (w'.heap[gb101001]? = some (.cells #[.int .i64 0, .int .i64 0, .int .i64 0, (.slice none 0 0)] 28 (0, 0))) ∧ Aside0 (w'.heap[gb101018]? = some (.cells #[.int .i64 t101012, .int .i64 t101013, .int .i64 t101014, u101019003] 28 (0, 0))) ∧ Aside0 (IsS100 w0 w' g s0_0 x1001_1) ∧ Aside0 (KeepBut w w' g none) ∧ Aside0 (Below w0.heap.size w0 w'))
  case atStart => exact ⟨(t101021), (0), (t101022), (t101015), (.slice Ao22 t101015.length co22), (by rfl), (by rfl), H', ⟨Nat.le_refl _⟩, ⟨by (with_reducible repeat (first | apply Kd.R_alloc | apply Kd.R_drewN | apply Kd.R_drew)); exact Kd.R_mono HO101017.out (fun _ hk => trivial)⟩, ⟨by (with_reducible repeat (first | refine blk_drewN ?_ _ | refine blk_drew ?_ | refine blk_alloc ?_ _)); exact BK101001.out⟩, ⟨by (with_reducible repeat (first | refine blk_drewN ?_ _ | refine blk_drew ?_ | refine blk_alloc ?_ _)); exact BK101018.out⟩, ⟨by exact HI0.out⟩, ⟨by exact HK.out⟩, ⟨by exact HB.out⟩⟩
  case round =>
    clear H'
    try clear c1
    try clear c2
    try clear p2
    try clear c7
    try clear c8
    try clear c10
    try clear c19
    try clear c20
    try clear hcz21_0
    try clear hcz21_1
    try clear hcz21_2
    try clear hcz21_3
    try clear hfz21_0
    try clear hfz21_1
    try clear hfz21_2
    try clear hfz21_3
    obtain ⟨x7_1, x8_1, x1001_1, x101019003_1, u101019003, rfl, rfl, HA, HK1, HO_101019003, BK101001, BK101018, HI0, HK, HB⟩ := hrel
    cases gk with
    | zero => exact absurd HA.out (by simp [spec_randomImage.l0])
    | succ k1 =>
      have H := HA.out
      clear HA
      simp only [spec_randomImage.l0] at H
      by_cases c25 : x8_1 < (x101019003_1.length : Int)
      · rw [if_pos c25] at H
        have c25b0 : decide (x8_1 < (x101019003_1.length : Int)) = true := decide_eq_true c25
        clear c25
        by_cases c26 : t101019 = 0
        · rw [if_pos c26] at H
          have c26b0 : (t101019 == 0) = true := beq_iff_eq.mpr c26
          have c26b1 : (t101019 != 0) = false := bne_eq_false_iff_eq.mpr c26
          clear c26
          replace H := Option.bind_eq_some_iff.mp H
          obtain ⟨⟨t101023, t101024⟩, A270, H⟩ := H
          replace H : (if 0 ≤ x8_1 then (spec_randomImage.l0 k1 t101019 t101023 (wrap64 (x8_1 + 1)) s0_0 t101024 t101012 t101013 t101014 (x101019003_1.set (x8_1 : Int).toNat t101023)) else none) = some (r1, r2, r3, r4, r5) := H
          have A27 := Aside0.mk A270
          clear A270
          by_cases c28 : 0 ≤ x8_1
          · rw [if_pos c28] at H
            have c28b0 : decide (0 ≤ x8_1) = true := decide_eq_true c28
            clear c28
            obtain ⟨y101025, hy101025⟩ : ∃ y_ : List Int, y_ = (x101019003_1.set (x8_1 : Int).toNat t101023) := ⟨_, rfl⟩
            replace H : (spec_randomImage.l0 k1 t101019 t101023 (wrap64 (x8_1 + 1)) s0_0 t101024 t101012 t101013 t101014 y101025) = some (r1, r2, r3, r4, r5) := by (rw [hy101025]; with_reducible exact H)
            have Ny101025 := Aside0.mk hy101025
            clear hy101025
            have H' := Aside0.mk H
            clear H
            have hnb30 := NB101018_101001.out
            have hnc30 := NB101001_101018.out
            have hnb31 := NB101018_0.out
            have hnc31 := NB0_101018.out
            have hcz32_0 : wr.cell? ⟨gb101018, 0, none⟩ = some (.int .i64 t101012) := (blk_cell BK101018.out 0).trans rfl
            have hcz32_1 : wr.cell? ⟨gb101018, 1, none⟩ = some (.int .i64 t101013) := (blk_cell BK101018.out 1).trans rfl
            have hcz32_2 : wr.cell? ⟨gb101018, 2, none⟩ = some (.int .i64 t101014) := (blk_cell BK101018.out 2).trans rfl
            have hcz32_3 : wr.cell? ⟨gb101018, 3, none⟩ = some u101019003 := (blk_cell BK101018.out 3).trans rfl
            have hfz32_0 := blk_frozen BK101018.out 0
            have hfz32_1 := blk_frozen BK101018.out 1
            have hfz32_2 := blk_frozen BK101018.out 2
            have hfz32_3 := blk_frozen BK101018.out 3
            obtain ⟨Ao33, co33, eo33⟩ := Kd.R_slice HO_101019003.out
            subst eo33
            go_wp2_with (first | ((with_reducible refine gate_callee (f := 82) rfl ?_); refine goesL_ (some 32) rfl rfl Try.func82 (by kernel_rfl) rfl #[.pointer (some ⟨g, 0, none⟩), .int .i64 256] rfl (by (try simp only [List.map_toArray, List.map_cons, List.map_nil]); rfl) ?_; (with_reducible refine (spec_reader_pick.calls k1 g s0_0 x1001_1 256 t101023 t101024 w0 _ ?side1 ?side2 A27.out).mono ?_); (case side1 => repeat (with_reducible exact HI0.out)); (case side2 => repeat (with_reducible exact HB.out)); rintro e w34 ⟨rfl, hi, hb, hk⟩; refine ⟨_, rfl, ?_⟩; have n0_ := Aside0.mk (Kd.R_mono (Kd.R_keep (IsS100.apart (show IsS100 w0 _ g s0_0 x1001_1 from by exact HI0.out) HO_101019003.out (by decide)) hk (fun _ h => h.2)) (fun _ h => h.1)); have n1_ := Aside0.mk (KeepBut.blk hk (g' := gb101001) (o := .cells #[.int .i64 0, .int .i64 0, .int .i64 0, .slice none 0 0] 28 (0, 0)) BK101001.out NB101001_0.out (by simp)); have n2_ := Aside0.mk (KeepBut.blk hk (g' := gb101018) (o := .cells #[.int .i64 t101012, .int .i64 t101013, .int .i64 t101014, .slice Ao33 x101019003_1.length co33] 28 (0, 0)) BK101018.out NB101018_0.out (by simp)); have n3_ := Aside0.mk (KeepBut.trans HK.out hk (.inl rfl)); have n4_ := Aside0.mk (hb); have n5_ := Aside0.mk (hi); clear HO_101019003; clear BK101001; clear BK101018; clear HK; clear HB; clear HI0; have HO_101019003 := n0_; have BK101001 := n1_; have BK101018 := n2_; have HK := n3_; have HB := n4_; have HI0 := n5_; clear n0_ n1_ n2_ n3_ n4_ n5_; (try clear hb); (try clear hk); (try clear hi); have hcz35_0 : w34.cell? ⟨gb101018, 0, none⟩ = some (.int .i64 t101012) := (blk_cell BK101018.out 0).trans rfl; have hcz35_1 : w34.cell? ⟨gb101018, 1, none⟩ = some (.int .i64 t101013) := (blk_cell BK101018.out 1).trans rfl; have hcz35_2 : w34.cell? ⟨gb101018, 2, none⟩ = some (.int .i64 t101014) := (blk_cell BK101018.out 2).trans rfl; have hcz35_3 : w34.cell? ⟨gb101018, 3, none⟩ = some (.slice Ao33 x101019003_1.length co33) := (blk_cell BK101018.out 3).trans rfl; have hfz35_0 := blk_frozen BK101018.out 0; have hfz35_1 := blk_frozen BK101018.out 1; have hfz35_2 := blk_frozen BK101018.out 2; have hfz35_3 := blk_frozen BK101018.out 3; have p29 : 0 ≤ (x8_1 : Int) := of_decide_eq_true (by (with_reducible assumption)); have q29 : (x8_1 : Int) < ((x101019003_1.length : Int) : Int) := of_decide_eq_true (by (with_reducible assumption)); obtain ⟨go29, co29, eo29, gb29, gl29, cl29, HG29⟩ := Kd.R_form HO_101019003.out (by omega); (cases eo29); have GB29 := Aside0.mk gb29; have GG29 := Aside0.mk HG29; clear gb29 gl29 HG29; obtain ⟨hx29_0, hf29_0⟩ := Kd.R_celln 0 HO_101019003.out (x8_1 : Int) p29 q29; replace p29 := eq_true p29; replace q29 := eq_true q29; obtain ⟨hy36_, hz36_⟩ := Kd.R_celln 0 HO_101019003.out (x8_1 : Int) (of_decide_eq_true (by (with_reducible assumption))) (of_decide_eq_true (by (with_reducible assumption))); have HP36 := Kd.R_putg HO_101019003.out (x8_1 : Int) t101023) | ((with_reducible refine gate_store (t := 3) (p := 50) rfl ?_); refine store_event (t := 3) (p := 50) (v := ?vo_w37) (w1 := (w34.setCell ⟨go29, (x8_1 : Int).toNat, none⟩ (.int .i64 t101023))) ?hg ?ho ?hn ?hr ?_; (case ho => rfl); (case hg => rfl); (case hn => rfl); (case hr => (go_simp; done)); intro w37 hw; have hg : w34.grownBy w37 (some go29) := (by rw [hw]; exact HP36.2); have hp_ : Kd.R (Kd.int .i64) 3 w37 w.heap.size (fun _ => True) (.slice (some ⟨go29, 0, none⟩) x101019003_1.length co33) y101025 := (by rw [hw, Ny101025.out]; exact HP36.1); clear HP36; have n0_ := Aside0.mk (hp_); have n1_ := Aside0.mk (blk_grown (g := gb101001) (o := .cells #[.int .i64 0, .int .i64 0, .int .i64 0, .slice none 0 0] 28 (0, 0)) BK101001.out hg (Kd.R_ne HO_101019003.out BK101001.out (by decide))); have n2_ := Aside0.mk (blk_grown (g := gb101018) (o := .cells #[.int .i64 t101012, .int .i64 t101013, .int .i64 t101014, .slice (some ⟨go29, 0, none⟩) x101019003_1.length co33] 28 (0, 0)) BK101018.out hg (Kd.R_ne HO_101019003.out BK101018.out (by decide))); have n3_ := Aside0.mk (IsS100.grown HI0.out hg (IsS100.own_ne HI0.out HO_101019003.out (by decide))); have n4_ := Aside0.mk ((by rw [hw]; exact below_set HB.out (Nat.le_trans HL.out GB29.out) : Below w0.heap.size w0 w37)); have n5_ := Aside0.mk (KeepBut.trans HK.out (KeepBut.of_grown hg g) (Kd.R_base2 HO_101019003.out)); clear HO_101019003; clear BK101001; clear BK101018; clear HI0; clear HB; clear HK; have HO_101019003 := n0_; have BK101001 := n1_; have BK101018 := n2_; have HI0 := n3_; have HB := n4_; have HK := n5_; clear n0_ n1_ n2_ n3_ n4_ n5_; clear hg hw hp_))
            go_roundg k1
            case measure => have := HK1.out; omega
            case rel => exact ⟨(t101023), (wrap64 (x8_1 + 1)), (t101024), (y101025), (.slice (some ⟨go29, 0, none⟩) x101019003_1.length co33), (by rfl), (by rfl), H', ⟨by have := HK1.out; omega⟩, ⟨by (with_reducible repeat (first | apply Kd.R_alloc | apply Kd.R_drewN | apply Kd.R_drew)); exact HO_101019003.out⟩, ⟨by (with_reducible repeat (first | refine blk_drewN ?_ _ | refine blk_drew ?_ | refine blk_alloc ?_ _)); exact BK101001.out⟩, ⟨by (with_reducible repeat (first | refine blk_drewN ?_ _ | refine blk_drew ?_ | refine blk_alloc ?_ _)); exact BK101018.out⟩, ⟨by exact HI0.out⟩, ⟨by exact HK.out⟩, ⟨by exact HB.out⟩⟩
          · rw [if_neg c28] at H
            exact absurd H (by simp)
        · rw [if_neg c26] at H
          have c26b0 : (t101019 == 0) = false := beq_eq_false_iff_ne.mpr c26
          have c26b1 : (t101019 != 0) = true := bne_iff_ne.mpr c26
          by_cases c38 : t101019 = 1
          · rw [if_pos c38] at H
            have c38b0 : (t101019 == 1) = true := beq_iff_eq.mpr c38
            have c38b1 : (t101019 != 1) = false := bne_eq_false_iff_eq.mpr c38
            clear c38
            replace H := Option.bind_eq_some_iff.mp H
            obtain ⟨⟨t101026, t101027⟩, A390, H⟩ := H
            replace H : (if 0 ≤ x8_1 then (spec_randomImage.l0 k1 t101019 (Int.tmod (wrap64 ((wrap64 (x7_1 + t101026)) + 254)) 256) (wrap64 (x8_1 + 1)) s0_0 t101027 t101012 t101013 t101014 (x101019003_1.set (x8_1 : Int).toNat (Int.tmod (wrap64 ((wrap64 (x7_1 + t101026)) + 254)) 256))) else none) = some (r1, r2, r3, r4, r5) := H
            have A39 := Aside0.mk A390
            clear A390
            by_cases c40 : 0 ≤ x8_1
            · rw [if_pos c40] at H
              have c40b0 : decide (0 ≤ x8_1) = true := decide_eq_true c40
              clear c40
              obtain ⟨y101028, hy101028⟩ : ∃ y_ : List Int, y_ = (x101019003_1.set (x8_1 : Int).toNat (Int.tmod (wrap64 ((wrap64 (x7_1 + t101026)) + 254)) 256)) := ⟨_, rfl⟩
              replace H : (spec_randomImage.l0 k1 t101019 (Int.tmod (wrap64 ((wrap64 (x7_1 + t101026)) + 254)) 256) (wrap64 (x8_1 + 1)) s0_0 t101027 t101012 t101013 t101014 y101028) = some (r1, r2, r3, r4, r5) := by (rw [hy101028]; with_reducible exact H)
              have Ny101028 := Aside0.mk hy101028
              clear hy101028
              have H' := Aside0.mk H
              clear H
              have hnb42 := NB101018_101001.out
              have hnc42 := NB101001_101018.out
              have hnb43 := NB101018_0.out
              have hnc43 := NB0_101018.out
              have hcz44_0 : wr.cell? ⟨gb101018, 0, none⟩ = some (.int .i64 t101012) := (blk_cell BK101018.out 0).trans rfl
              have hcz44_1 : wr.cell? ⟨gb101018, 1, none⟩ = some (.int .i64 t101013) := (blk_cell BK101018.out 1).trans rfl
              have hcz44_2 : wr.cell? ⟨gb101018, 2, none⟩ = some (.int .i64 t101014) := (blk_cell BK101018.out 2).trans rfl
              have hcz44_3 : wr.cell? ⟨gb101018, 3, none⟩ = some u101019003 := (blk_cell BK101018.out 3).trans rfl
              have hfz44_0 := blk_frozen BK101018.out 0
              have hfz44_1 := blk_frozen BK101018.out 1
              have hfz44_2 := blk_frozen BK101018.out 2
              have hfz44_3 := blk_frozen BK101018.out 3
              obtain ⟨Ao45, co45, eo45⟩ := Kd.R_slice HO_101019003.out
              subst eo45
              go_wp2_with (first | ((with_reducible refine gate_callee (f := 82) rfl ?_); refine goesL_ (some 37) rfl rfl Try.func82 (by kernel_rfl) rfl #[.pointer (some ⟨g, 0, none⟩), .int .i64 5] rfl (by (try simp only [List.map_toArray, List.map_cons, List.map_nil]); rfl) ?_; (with_reducible refine (spec_reader_pick.calls k1 g s0_0 x1001_1 5 t101026 t101027 w0 _ ?side1 ?side2 A39.out).mono ?_); (case side1 => repeat (with_reducible exact HI0.out)); (case side2 => repeat (with_reducible exact HB.out)); rintro e w46 ⟨rfl, hi, hb, hk⟩; refine ⟨_, rfl, ?_⟩; have n0_ := Aside0.mk (Kd.R_mono (Kd.R_keep (IsS100.apart (show IsS100 w0 _ g s0_0 x1001_1 from by exact HI0.out) HO_101019003.out (by decide)) hk (fun _ h => h.2)) (fun _ h => h.1)); have n1_ := Aside0.mk (KeepBut.blk hk (g' := gb101001) (o := .cells #[.int .i64 0, .int .i64 0, .int .i64 0, .slice none 0 0] 28 (0, 0)) BK101001.out NB101001_0.out (by simp)); have n2_ := Aside0.mk (KeepBut.blk hk (g' := gb101018) (o := .cells #[.int .i64 t101012, .int .i64 t101013, .int .i64 t101014, .slice Ao45 x101019003_1.length co45] 28 (0, 0)) BK101018.out NB101018_0.out (by simp)); have n3_ := Aside0.mk (KeepBut.trans HK.out hk (.inl rfl)); have n4_ := Aside0.mk (hb); have n5_ := Aside0.mk (hi); clear HO_101019003; clear BK101001; clear BK101018; clear HK; clear HB; clear HI0; have HO_101019003 := n0_; have BK101001 := n1_; have BK101018 := n2_; have HK := n3_; have HB := n4_; have HI0 := n5_; clear n0_ n1_ n2_ n3_ n4_ n5_; (try clear hb); (try clear hk); (try clear hi); have hcz47_0 : w46.cell? ⟨gb101018, 0, none⟩ = some (.int .i64 t101012) := (blk_cell BK101018.out 0).trans rfl; have hcz47_1 : w46.cell? ⟨gb101018, 1, none⟩ = some (.int .i64 t101013) := (blk_cell BK101018.out 1).trans rfl; have hcz47_2 : w46.cell? ⟨gb101018, 2, none⟩ = some (.int .i64 t101014) := (blk_cell BK101018.out 2).trans rfl; have hcz47_3 : w46.cell? ⟨gb101018, 3, none⟩ = some (.slice Ao45 x101019003_1.length co45) := (blk_cell BK101018.out 3).trans rfl; have hfz47_0 := blk_frozen BK101018.out 0; have hfz47_1 := blk_frozen BK101018.out 1; have hfz47_2 := blk_frozen BK101018.out 2; have hfz47_3 := blk_frozen BK101018.out 3; have p41 : 0 ≤ (x8_1 : Int) := of_decide_eq_true (by (with_reducible assumption)); have q41 : (x8_1 : Int) < ((x101019003_1.length : Int) : Int) := of_decide_eq_true (by (with_reducible assumption)); obtain ⟨go41, co41, eo41, gb41, gl41, cl41, HG41⟩ := Kd.R_form HO_101019003.out (by omega); (cases eo41); have GB41 := Aside0.mk gb41; have GG41 := Aside0.mk HG41; clear gb41 gl41 HG41; obtain ⟨hx41_0, hf41_0⟩ := Kd.R_celln 0 HO_101019003.out (x8_1 : Int) p41 q41; replace p41 := eq_true p41; replace q41 := eq_true q41; obtain ⟨hy48_, hz48_⟩ := Kd.R_celln 0 HO_101019003.out (x8_1 : Int) (of_decide_eq_true (by (with_reducible assumption))) (of_decide_eq_true (by (with_reducible assumption))); have HP48 := Kd.R_putg HO_101019003.out (x8_1 : Int) (Int.tmod (wrap64 ((wrap64 (x7_1 + t101026)) + 254)) 256)) | ((with_reducible refine gate_store (t := 3) (p := 50) rfl ?_); refine store_event (t := 3) (p := 50) (v := ?vo_w49) (w1 := (w46.setCell ⟨go41, (x8_1 : Int).toNat, none⟩ (.int .i64 (Int.tmod (wrap64 ((wrap64 (x7_1 + t101026)) + 254)) 256)))) ?hg ?ho ?hn ?hr ?_; (case ho => rfl); (case hg => rfl); (case hn => rfl); (case hr => (go_simp; done)); intro w49 hw; have hg : w46.grownBy w49 (some go41) := (by rw [hw]; exact HP48.2); have hp_ : Kd.R (Kd.int .i64) 3 w49 w.heap.size (fun _ => True) (.slice (some ⟨go41, 0, none⟩) x101019003_1.length co45) y101028 := (by rw [hw, Ny101028.out]; exact HP48.1); clear HP48; have n0_ := Aside0.mk (hp_); have n1_ := Aside0.mk (blk_grown (g := gb101001) (o := .cells #[.int .i64 0, .int .i64 0, .int .i64 0, .slice none 0 0] 28 (0, 0)) BK101001.out hg (Kd.R_ne HO_101019003.out BK101001.out (by decide))); have n2_ := Aside0.mk (blk_grown (g := gb101018) (o := .cells #[.int .i64 t101012, .int .i64 t101013, .int .i64 t101014, .slice (some ⟨go41, 0, none⟩) x101019003_1.length co45] 28 (0, 0)) BK101018.out hg (Kd.R_ne HO_101019003.out BK101018.out (by decide))); have n3_ := Aside0.mk (IsS100.grown HI0.out hg (IsS100.own_ne HI0.out HO_101019003.out (by decide))); have n4_ := Aside0.mk ((by rw [hw]; exact below_set HB.out (Nat.le_trans HL.out GB41.out) : Below w0.heap.size w0 w49)); have n5_ := Aside0.mk (KeepBut.trans HK.out (KeepBut.of_grown hg g) (Kd.R_base2 HO_101019003.out)); clear HO_101019003; clear BK101001; clear BK101018; clear HI0; clear HB; clear HK; have HO_101019003 := n0_; have BK101001 := n1_; have BK101018 := n2_; have HI0 := n3_; have HB := n4_; have HK := n5_; clear n0_ n1_ n2_ n3_ n4_ n5_; clear hg hw hp_))
              go_roundg k1
              case measure => have := HK1.out; omega
              case rel => exact ⟨(Int.tmod (wrap64 ((wrap64 (x7_1 + t101026)) + 254)) 256), (wrap64 (x8_1 + 1)), (t101027), (y101028), (.slice (some ⟨go41, 0, none⟩) x101019003_1.length co45), (by rfl), (by rfl), H', ⟨by have := HK1.out; omega⟩, ⟨by (with_reducible repeat (first | apply Kd.R_alloc | apply Kd.R_drewN | apply Kd.R_drew)); exact HO_101019003.out⟩, ⟨by (with_reducible repeat (first | refine blk_drewN ?_ _ | refine blk_drew ?_ | refine blk_alloc ?_ _)); exact BK101001.out⟩, ⟨by (with_reducible repeat (first | refine blk_drewN ?_ _ | refine blk_drew ?_ | refine blk_alloc ?_ _)); exact BK101018.out⟩, ⟨by exact HI0.out⟩, ⟨by exact HK.out⟩, ⟨by exact HB.out⟩⟩
            · rw [if_neg c40] at H
              exact absurd H (by simp)
          · rw [if_neg c38] at H
            have c38b0 : (t101019 == 1) = false := beq_eq_false_iff_ne.mpr c38
            have c38b1 : (t101019 != 1) = true := bne_iff_ne.mpr c38
            by_cases c50 : t101019 = 2
            · rw [if_pos c50] at H
              have c50b0 : (t101019 == 2) = true := beq_iff_eq.mpr c50
              have c50b1 : (t101019 != 2) = false := bne_eq_false_iff_eq.mpr c50
              clear c50
              replace H := Option.bind_eq_some_iff.mp H
              obtain ⟨⟨t101029, t101030⟩, A510, H⟩ := H
              replace H : (if 0 ≤ x8_1 then (spec_randomImage.l0 k1 t101019 (wrap64 (60 * t101029)) (wrap64 (x8_1 + 1)) s0_0 t101030 t101012 t101013 t101014 (x101019003_1.set (x8_1 : Int).toNat (wrap64 (60 * t101029)))) else none) = some (r1, r2, r3, r4, r5) := H
              have A51 := Aside0.mk A510
              clear A510
              by_cases c52 : 0 ≤ x8_1
              · rw [if_pos c52] at H
                have c52b0 : decide (0 ≤ x8_1) = true := decide_eq_true c52
                clear c52
                obtain ⟨y101031, hy101031⟩ : ∃ y_ : List Int, y_ = (x101019003_1.set (x8_1 : Int).toNat (wrap64 (60 * t101029))) := ⟨_, rfl⟩
                replace H : (spec_randomImage.l0 k1 t101019 (wrap64 (60 * t101029)) (wrap64 (x8_1 + 1)) s0_0 t101030 t101012 t101013 t101014 y101031) = some (r1, r2, r3, r4, r5) := by (rw [hy101031]; with_reducible exact H)
                have Ny101031 := Aside0.mk hy101031
                clear hy101031
                have H' := Aside0.mk H
                clear H
                have hnb54 := NB101018_101001.out
                have hnc54 := NB101001_101018.out
                have hnb55 := NB101018_0.out
                have hnc55 := NB0_101018.out
                have hcz56_0 : wr.cell? ⟨gb101018, 0, none⟩ = some (.int .i64 t101012) := (blk_cell BK101018.out 0).trans rfl
                have hcz56_1 : wr.cell? ⟨gb101018, 1, none⟩ = some (.int .i64 t101013) := (blk_cell BK101018.out 1).trans rfl
                have hcz56_2 : wr.cell? ⟨gb101018, 2, none⟩ = some (.int .i64 t101014) := (blk_cell BK101018.out 2).trans rfl
                have hcz56_3 : wr.cell? ⟨gb101018, 3, none⟩ = some u101019003 := (blk_cell BK101018.out 3).trans rfl
                have hfz56_0 := blk_frozen BK101018.out 0
                have hfz56_1 := blk_frozen BK101018.out 1
                have hfz56_2 := blk_frozen BK101018.out 2
                have hfz56_3 := blk_frozen BK101018.out 3
                obtain ⟨Ao57, co57, eo57⟩ := Kd.R_slice HO_101019003.out
                subst eo57
                go_wp2_with (first | ((with_reducible refine gate_callee (f := 82) rfl ?_); refine goesL_ (some 44) rfl rfl Try.func82 (by kernel_rfl) rfl #[.pointer (some ⟨g, 0, none⟩), .int .i64 4] rfl (by (try simp only [List.map_toArray, List.map_cons, List.map_nil]); rfl) ?_; (with_reducible refine (spec_reader_pick.calls k1 g s0_0 x1001_1 4 t101029 t101030 w0 _ ?side1 ?side2 A51.out).mono ?_); (case side1 => repeat (with_reducible exact HI0.out)); (case side2 => repeat (with_reducible exact HB.out)); rintro e w58 ⟨rfl, hi, hb, hk⟩; refine ⟨_, rfl, ?_⟩; have n0_ := Aside0.mk (Kd.R_mono (Kd.R_keep (IsS100.apart (show IsS100 w0 _ g s0_0 x1001_1 from by exact HI0.out) HO_101019003.out (by decide)) hk (fun _ h => h.2)) (fun _ h => h.1)); have n1_ := Aside0.mk (KeepBut.blk hk (g' := gb101001) (o := .cells #[.int .i64 0, .int .i64 0, .int .i64 0, .slice none 0 0] 28 (0, 0)) BK101001.out NB101001_0.out (by simp)); have n2_ := Aside0.mk (KeepBut.blk hk (g' := gb101018) (o := .cells #[.int .i64 t101012, .int .i64 t101013, .int .i64 t101014, .slice Ao57 x101019003_1.length co57] 28 (0, 0)) BK101018.out NB101018_0.out (by simp)); have n3_ := Aside0.mk (KeepBut.trans HK.out hk (.inl rfl)); have n4_ := Aside0.mk (hb); have n5_ := Aside0.mk (hi); clear HO_101019003; clear BK101001; clear BK101018; clear HK; clear HB; clear HI0; have HO_101019003 := n0_; have BK101001 := n1_; have BK101018 := n2_; have HK := n3_; have HB := n4_; have HI0 := n5_; clear n0_ n1_ n2_ n3_ n4_ n5_; (try clear hb); (try clear hk); (try clear hi); have hcz59_0 : w58.cell? ⟨gb101018, 0, none⟩ = some (.int .i64 t101012) := (blk_cell BK101018.out 0).trans rfl; have hcz59_1 : w58.cell? ⟨gb101018, 1, none⟩ = some (.int .i64 t101013) := (blk_cell BK101018.out 1).trans rfl; have hcz59_2 : w58.cell? ⟨gb101018, 2, none⟩ = some (.int .i64 t101014) := (blk_cell BK101018.out 2).trans rfl; have hcz59_3 : w58.cell? ⟨gb101018, 3, none⟩ = some (.slice Ao57 x101019003_1.length co57) := (blk_cell BK101018.out 3).trans rfl; have hfz59_0 := blk_frozen BK101018.out 0; have hfz59_1 := blk_frozen BK101018.out 1; have hfz59_2 := blk_frozen BK101018.out 2; have hfz59_3 := blk_frozen BK101018.out 3; have p53 : 0 ≤ (x8_1 : Int) := of_decide_eq_true (by (with_reducible assumption)); have q53 : (x8_1 : Int) < ((x101019003_1.length : Int) : Int) := of_decide_eq_true (by (with_reducible assumption)); obtain ⟨go53, co53, eo53, gb53, gl53, cl53, HG53⟩ := Kd.R_form HO_101019003.out (by omega); (cases eo53); have GB53 := Aside0.mk gb53; have GG53 := Aside0.mk HG53; clear gb53 gl53 HG53; obtain ⟨hx53_0, hf53_0⟩ := Kd.R_celln 0 HO_101019003.out (x8_1 : Int) p53 q53; replace p53 := eq_true p53; replace q53 := eq_true q53; obtain ⟨hy60_, hz60_⟩ := Kd.R_celln 0 HO_101019003.out (x8_1 : Int) (of_decide_eq_true (by (with_reducible assumption))) (of_decide_eq_true (by (with_reducible assumption))); have HP60 := Kd.R_putg HO_101019003.out (x8_1 : Int) (wrap64 (60 * t101029))) | ((with_reducible refine gate_store (t := 3) (p := 50) rfl ?_); refine store_event (t := 3) (p := 50) (v := ?vo_w61) (w1 := (w58.setCell ⟨go53, (x8_1 : Int).toNat, none⟩ (.int .i64 (wrap64 (60 * t101029))))) ?hg ?ho ?hn ?hr ?_; (case ho => rfl); (case hg => rfl); (case hn => rfl); (case hr => (go_simp; done)); intro w61 hw; have hg : w58.grownBy w61 (some go53) := (by rw [hw]; exact HP60.2); have hp_ : Kd.R (Kd.int .i64) 3 w61 w.heap.size (fun _ => True) (.slice (some ⟨go53, 0, none⟩) x101019003_1.length co57) y101031 := (by rw [hw, Ny101031.out]; exact HP60.1); clear HP60; have n0_ := Aside0.mk (hp_); have n1_ := Aside0.mk (blk_grown (g := gb101001) (o := .cells #[.int .i64 0, .int .i64 0, .int .i64 0, .slice none 0 0] 28 (0, 0)) BK101001.out hg (Kd.R_ne HO_101019003.out BK101001.out (by decide))); have n2_ := Aside0.mk (blk_grown (g := gb101018) (o := .cells #[.int .i64 t101012, .int .i64 t101013, .int .i64 t101014, .slice (some ⟨go53, 0, none⟩) x101019003_1.length co57] 28 (0, 0)) BK101018.out hg (Kd.R_ne HO_101019003.out BK101018.out (by decide))); have n3_ := Aside0.mk (IsS100.grown HI0.out hg (IsS100.own_ne HI0.out HO_101019003.out (by decide))); have n4_ := Aside0.mk ((by rw [hw]; exact below_set HB.out (Nat.le_trans HL.out GB53.out) : Below w0.heap.size w0 w61)); have n5_ := Aside0.mk (KeepBut.trans HK.out (KeepBut.of_grown hg g) (Kd.R_base2 HO_101019003.out)); clear HO_101019003; clear BK101001; clear BK101018; clear HI0; clear HB; clear HK; have HO_101019003 := n0_; have BK101001 := n1_; have BK101018 := n2_; have HI0 := n3_; have HB := n4_; have HK := n5_; clear n0_ n1_ n2_ n3_ n4_ n5_; clear hg hw hp_))
                go_roundg k1
                case measure => have := HK1.out; omega
                case rel => exact ⟨(wrap64 (60 * t101029)), (wrap64 (x8_1 + 1)), (t101030), (y101031), (.slice (some ⟨go53, 0, none⟩) x101019003_1.length co57), (by rfl), (by rfl), H', ⟨by have := HK1.out; omega⟩, ⟨by (with_reducible repeat (first | apply Kd.R_alloc | apply Kd.R_drewN | apply Kd.R_drew)); exact HO_101019003.out⟩, ⟨by (with_reducible repeat (first | refine blk_drewN ?_ _ | refine blk_drew ?_ | refine blk_alloc ?_ _)); exact BK101001.out⟩, ⟨by (with_reducible repeat (first | refine blk_drewN ?_ _ | refine blk_drew ?_ | refine blk_alloc ?_ _)); exact BK101018.out⟩, ⟨by exact HI0.out⟩, ⟨by exact HK.out⟩, ⟨by exact HB.out⟩⟩
              · rw [if_neg c52] at H
                exact absurd H (by simp)
            · rw [if_neg c50] at H
              have c50b0 : (t101019 == 2) = false := beq_eq_false_iff_ne.mpr c50
              have c50b1 : (t101019 != 2) = true := bne_iff_ne.mpr c50
              by_cases c62 : 0 ≤ x8_1
              · rw [if_pos c62] at H
                have c62b0 : decide (0 ≤ x8_1) = true := decide_eq_true c62
                clear c62
                obtain ⟨y101032, hy101032⟩ : ∃ y_ : List Int, y_ = (x101019003_1.set (x8_1 : Int).toNat x7_1) := ⟨_, rfl⟩
                replace H : (spec_randomImage.l0 k1 t101019 x7_1 (wrap64 (x8_1 + 1)) s0_0 x1001_1 t101012 t101013 t101014 y101032) = some (r1, r2, r3, r4, r5) := by (rw [hy101032]; with_reducible exact H)
                have Ny101032 := Aside0.mk hy101032
                clear hy101032
                have H' := Aside0.mk H
                clear H
                have hnb64 := NB101018_101001.out
                have hnc64 := NB101001_101018.out
                have hnb65 := NB101018_0.out
                have hnc65 := NB0_101018.out
                have hcz66_0 : wr.cell? ⟨gb101018, 0, none⟩ = some (.int .i64 t101012) := (blk_cell BK101018.out 0).trans rfl
                have hcz66_1 : wr.cell? ⟨gb101018, 1, none⟩ = some (.int .i64 t101013) := (blk_cell BK101018.out 1).trans rfl
                have hcz66_2 : wr.cell? ⟨gb101018, 2, none⟩ = some (.int .i64 t101014) := (blk_cell BK101018.out 2).trans rfl
                have hcz66_3 : wr.cell? ⟨gb101018, 3, none⟩ = some u101019003 := (blk_cell BK101018.out 3).trans rfl
                have hfz66_0 := blk_frozen BK101018.out 0
                have hfz66_1 := blk_frozen BK101018.out 1
                have hfz66_2 := blk_frozen BK101018.out 2
                have hfz66_3 := blk_frozen BK101018.out 3
                obtain ⟨Ao67, co67, eo67⟩ := Kd.R_slice HO_101019003.out
                subst eo67
                have p63 : 0 ≤ (x8_1 : Int) := of_decide_eq_true (by (with_reducible assumption))
                have q63 : (x8_1 : Int) < ((x101019003_1.length : Int) : Int) := of_decide_eq_true (by (with_reducible assumption))
                obtain ⟨go63, co63, eo63, gb63, gl63, cl63, HG63⟩ := Kd.R_form HO_101019003.out (by omega)
                (cases eo63)
                have GB63 := Aside0.mk gb63
                have GG63 := Aside0.mk HG63
                clear gb63 gl63 HG63
                obtain ⟨hx63_0, hf63_0⟩ := Kd.R_celln 0 HO_101019003.out (x8_1 : Int) p63 q63
                replace p63 := eq_true p63
                replace q63 := eq_true q63
                have HP68 := Kd.R_putg HO_101019003.out (x8_1 : Int) x7_1
                go_wp2_with (first | ((with_reducible refine gate_store (t := 3) (p := 50) rfl ?_); refine store_event (t := 3) (p := 50) (v := ?vo_w69) (w1 := (wr.setCell ⟨go63, (x8_1 : Int).toNat, none⟩ (.int .i64 x7_1))) ?hg ?ho ?hn ?hr ?_; (case ho => rfl); (case hg => rfl); (case hn => rfl); (case hr => (go_simp; done)); intro w69 hw; have hg : wr.grownBy w69 (some go63) := (by rw [hw]; exact HP68.2); have hp_ : Kd.R (Kd.int .i64) 3 w69 w.heap.size (fun _ => True) (.slice (some ⟨go63, 0, none⟩) x101019003_1.length co67) y101032 := (by rw [hw, Ny101032.out]; exact HP68.1); clear HP68; have n0_ := Aside0.mk (hp_); have n1_ := Aside0.mk (blk_grown (g := gb101001) (o := .cells #[.int .i64 0, .int .i64 0, .int .i64 0, .slice none 0 0] 28 (0, 0)) BK101001.out hg (Kd.R_ne HO_101019003.out BK101001.out (by decide))); have n2_ := Aside0.mk (blk_grown (g := gb101018) (o := .cells #[.int .i64 t101012, .int .i64 t101013, .int .i64 t101014, .slice (some ⟨go63, 0, none⟩) x101019003_1.length co67] 28 (0, 0)) BK101018.out hg (Kd.R_ne HO_101019003.out BK101018.out (by decide))); have n3_ := Aside0.mk (IsS100.grown HI0.out hg (IsS100.own_ne HI0.out HO_101019003.out (by decide))); have n4_ := Aside0.mk ((by rw [hw]; exact below_set HB.out (Nat.le_trans HL.out GB63.out) : Below w0.heap.size w0 w69)); have n5_ := Aside0.mk (KeepBut.trans HK.out (KeepBut.of_grown hg g) (Kd.R_base2 HO_101019003.out)); clear HO_101019003; clear BK101001; clear BK101018; clear HI0; clear HB; clear HK; have HO_101019003 := n0_; have BK101001 := n1_; have BK101018 := n2_; have HI0 := n3_; have HB := n4_; have HK := n5_; clear n0_ n1_ n2_ n3_ n4_ n5_; clear hg hw hp_))
                go_roundg k1
                case measure => have := HK1.out; omega
                case rel => exact ⟨(x7_1), (wrap64 (x8_1 + 1)), (x1001_1), (y101032), (.slice (some ⟨go63, 0, none⟩) x101019003_1.length co67), (by rfl), (by rfl), H', ⟨by have := HK1.out; omega⟩, ⟨by (with_reducible repeat (first | apply Kd.R_alloc | apply Kd.R_drewN | apply Kd.R_drew)); exact HO_101019003.out⟩, ⟨by (with_reducible repeat (first | refine blk_drewN ?_ _ | refine blk_drew ?_ | refine blk_alloc ?_ _)); exact BK101001.out⟩, ⟨by (with_reducible repeat (first | refine blk_drewN ?_ _ | refine blk_drew ?_ | refine blk_alloc ?_ _)); exact BK101018.out⟩, ⟨by exact HI0.out⟩, ⟨by exact HK.out⟩, ⟨by exact HB.out⟩⟩
              · rw [if_neg c62] at H
                exact absurd H (by simp)
      · rw [if_neg c25] at H
        have c25b0 : decide (x8_1 < (x101019003_1.length : Int)) = false := decide_eq_false c25
        clear c25
        simp only [Option.some.injEq, Prod.mk.injEq] at H
        obtain ⟨rfl, rfl, rfl, rfl, rfl⟩ := H
        have hnb70 := NB101018_101001.out
        have hnc70 := NB101001_101018.out
        have hnb71 := NB101018_0.out
        have hnc71 := NB0_101018.out
        have hcz72_0 : wr.cell? ⟨gb101018, 0, none⟩ = some (.int .i64 t101012) := (blk_cell BK101018.out 0).trans rfl
        have hcz72_1 : wr.cell? ⟨gb101018, 1, none⟩ = some (.int .i64 t101013) := (blk_cell BK101018.out 1).trans rfl
        have hcz72_2 : wr.cell? ⟨gb101018, 2, none⟩ = some (.int .i64 t101014) := (blk_cell BK101018.out 2).trans rfl
        have hcz72_3 : wr.cell? ⟨gb101018, 3, none⟩ = some u101019003 := (blk_cell BK101018.out 3).trans rfl
        have hfz72_0 := blk_frozen BK101018.out 0
        have hfz72_1 := blk_frozen BK101018.out 1
        have hfz72_2 := blk_frozen BK101018.out 2
        have hfz72_3 := blk_frozen BK101018.out 3
        obtain ⟨Ao73, co73, eo73⟩ := Kd.R_slice HO_101019003.out
        subst eo73
        have hnb74 := NB101001_0.out
        have hnc74 := NB0_101001.out
        have hcz75_0 : wr.cell? ⟨gb101001, 0, none⟩ = some (.int .i64 0) := (blk_cell BK101001.out 0).trans rfl
        have hcz75_1 : wr.cell? ⟨gb101001, 1, none⟩ = some (.int .i64 0) := (blk_cell BK101001.out 1).trans rfl
        have hcz75_2 : wr.cell? ⟨gb101001, 2, none⟩ = some (.int .i64 0) := (blk_cell BK101001.out 2).trans rfl
        have hcz75_3 : wr.cell? ⟨gb101001, 3, none⟩ = some (.slice none 0 0) := (blk_cell BK101001.out 3).trans rfl
        have hfz75_0 := blk_frozen BK101001.out 0
        have hfz75_1 := blk_frozen BK101001.out 1
        have hfz75_2 := blk_frozen BK101001.out 2
        have hfz75_3 := blk_frozen BK101001.out 3
        go_wp2
        refine bodyPost_ret (results_cell_row rfl _ _ gb101001 28 #[.int .i64 t101012, .int .i64 t101013, .int .i64 t101014, .slice Ao73 x101019003_1.length co73] (0, 0) _ rfl (by refine blk_put (cs := #[.int .i64 t101012, .int .i64 t101013, .int .i64 t101014, .slice none 0 0]) ?_ 3 _ rfl; (with_reducible repeat (first | refine blk_drewN ?_ _ | refine blk_drew ?_ | refine blk_alloc ?_ _)); refine blk_put (cs := #[.int .i64 t101012, .int .i64 t101013, .int .i64 0, .slice none 0 0]) ?_ 2 _ rfl; (with_reducible repeat (first | refine blk_drewN ?_ _ | refine blk_drew ?_ | refine blk_alloc ?_ _)); refine blk_put (cs := #[.int .i64 t101012, .int .i64 0, .int .i64 0, .slice none 0 0]) ?_ 1 _ rfl; (with_reducible repeat (first | refine blk_drewN ?_ _ | refine blk_drew ?_ | refine blk_alloc ?_ _)); refine blk_put (cs := #[.int .i64 0, .int .i64 0, .int .i64 0, .slice none 0 0]) ?_ 0 _ rfl; (with_reducible repeat (first | refine blk_drewN ?_ _ | refine blk_drew ?_ | refine blk_alloc ?_ _)); exact BK101001.out) Try.underlying28 rfl (by kernel_rfl)) rfl ?_
        exact ⟨_, by rfl, by (with_reducible repeat (first | apply Kd.R_alloc | apply Kd.R_drewN | apply Kd.R_drew)); exact Kd.R_mono (Kd.R_far (p := ⟨gb101001, 3, none⟩) (Kd.R_far (p := ⟨gb101001, 2, none⟩) (Kd.R_far (p := ⟨gb101001, 1, none⟩) (Kd.R_far (p := ⟨gb101001, 0, none⟩) (Kd.R_types HO_101019003.out BK101001.out (by decide)) (fun _ hk => hk.2) (.int .i64 t101012)) (fun _ hk => hk.2) (.int .i64 t101013)) (fun _ hk => hk.2) (.int .i64 t101014)) (fun _ hk => hk.2) (.slice Ao73 x101019003_1.length co73)) (fun _ hk => trivial), by repeat (with_reducible first | exact HI0.out | refine IsS100.far ?_ NB0_101001.out _), by repeat (with_reducible first | exact HB.out | refine below_set ?_ GE101001.out), by repeat (with_reducible first | exact HK.out | refine keep_far ?_ GW101001.out _)⟩


def spec_anyPlanes.f (k : Nat) (s0_0 : List Int) (s0_1 : Int) : Option (Int × Int) := (spec_reader_one.f k s0_0 s0_1 (([1, 3, 1, 4, 2] : List Int))).bind fun bt102004 => (some (bt102004.1, bt102004.2))
theorem spec_anyPlanes.mono : ∀ a0 a1 k, LeO (spec_anyPlanes.f k a0 a1) (spec_anyPlanes.f (k + 1) a0 a1) := by
  intro a0 a1 k
  unfold spec_anyPlanes.f
  repeat' first
      | (with_reducible exact spec_reader_one.mono _ _ _ _)
      | (with_reducible exact LeO.refl _)
      | (with_reducible exact LeO.none _)
      | (with_reducible refine LeO.ite ?_ ?_)
      | (with_reducible refine LeO.bind ?_ (fun _ => ?_))
      | exact spec_reader_one.mono _ _ _ _
      | exact LeO.none _
      | refine LeO.ite ?_ ?_
      | refine LeO.bind ?_ (fun _ => ?_)
set_option maxHeartbeats 8000000 in
set_option maxRecDepth 100000 in
theorem spec_anyPlanes.calls (k : Nat) (g : Nat) (s0_0 : List Int) (s0_1 : Int) (r1 : Int) (r2 : Int) (w0 w : World) (hI : IsS100 w0 w g s0_0 s0_1) (hB : Below w0.heap.size w0 w) (h : spec_anyPlanes.f k s0_0 s0_1 = some (r1, r2)) :
    Calls Try.prog 101 #[.pointer (some ⟨g, 0, none⟩)] w fun e w' => e = .returned (.int .i64 r1) ∧ IsS100 w0 w' g s0_0 r2 ∧ Below w0.heap.size w0 w' ∧ KeepBut w w' g none := by
  have HI0 := Aside0.mk hI
  have HK := Aside0.mk (KeepBut.refl w g none)
  have HL := Aside0.mk hB.size
  clear hI
  have HW0 := Aside0.mk hB.size
  have HB := Aside0.mk hB
  clear hB
  have H : ((spec_reader_one.f k s0_0 s0_1 (([1, 3, 1, 4, 2] : List Int))).bind fun bt102004 => (some (bt102004.1, bt102004.2))) = some (r1, r2) := h
  clear h
  obtain ⟨y102001, hy102001⟩ : ∃ y_ : List Int, y_ = (([1, 3, 1, 4, 2] : List Int)) := ⟨_, rfl⟩
  replace H : ((spec_reader_one.f k s0_0 s0_1 y102001).bind fun bt102004 => (some (bt102004.1, bt102004.2))) = some (r1, r2) := by first | (rw [hy102001]; with_reducible exact H) | (have H2_ := (Option.bind_some _ _).symm.trans H; rw [hy102001]; with_reducible exact H2_) | (have H2_ := (Option.bind_some _ _).symm.trans H; with_reducible exact H2_) | with_reducible exact H | (rw [hy102001]; exact H) | exact H
  have Ny102001 := Aside0.mk hy102001
  clear hy102001
  replace H := Option.bind_eq_some_iff.mp H
  obtain ⟨⟨t102004, t102005⟩, A20, H⟩ := H
  replace H : (some (t102004, t102005)) = some (r1, r2) := H
  have A2 := Aside0.mk A20
  clear A20
  simp only [Option.some.injEq, Prod.mk.injEq] at H
  obtain ⟨rfl, rfl⟩ := H
  go_enter Try.func101, Try.ntmps101
  go_wp2_with (first | ((with_reducible refine gate_dst (N := 4) rfl ?_); refine Kd.R_lit (Kd.int .i64) _ 3 ?hg (N := 4) ?hd (xs := ([1, 3, 1, 4, 2] : List Int)) (inner := [.int .i64 1, .int .i64 3, .int .i64 1, .int .i64 4, .int .i64 2]) (ok := fun _ => True) (okp := fun _ => True) ?hr ?hp (fun _ hk => hk) trivial (Below.refl _ _) (Nat.le_refl _) (by simp) ?_; (case hd => rfl); (case hg => rfl); (case hr => first | (go_simp; done) | (go_simp; rfl)); (case hp => exact (Reps.one (show Kd.M (Kd.int .i64) _ _ _ 1 [.int .i64 1] from rfl) (Reps.one (show Kd.M (Kd.int .i64) _ _ _ 3 [.int .i64 3] from rfl) (Reps.one (show Kd.M (Kd.int .i64) _ _ _ 1 [.int .i64 1] from rfl) (Reps.one (show Kd.M (Kd.int .i64) _ _ _ 4 [.int .i64 4] from rfl) (Reps.one (show Kd.M (Kd.int .i64) _ _ _ 2 [.int .i64 2] from rfl) (Reps.none _ _))))))); intro v102002 w3 ho4 hb hg_ hnew_; clear hg_ hnew_; (first | rw [← Ny102001.out] at ho4 | (simp only [Int.reduceToNat] at ho4; rw [← Ny102001.out] at ho4)); have n0_ := Aside0.mk (Kd.R_lower ho4 (keep_size (w := w) (g := g) (row := none) (by repeat (first | (with_reducible first | exact HK.out | apply KeepBut.set_ | apply keep_drewN | apply keep_drew | apply keep_alloc) | exact HK.out)))); have n1_ := Aside0.mk (IsS100.below (by repeat (first | (with_reducible first | exact HI0.out | apply IsS100.alloc | apply IsS100.drewN | apply IsS100.drew | apply IsS100.set_1) | exact HI0.out)) hb); have n2_ := Aside0.mk (KeepBut.trans (by repeat (first | (with_reducible first | exact HK.out | apply KeepBut.set_ | apply keep_drewN | apply keep_drew | apply keep_alloc) | exact HK.out)) (KeepBut.of_below hb g none) (.inl rfl)); have n3_ := Aside0.mk (below_step (by repeat (first | (with_reducible first | exact HB.out | apply below_alloc | apply pw_below_drewN | apply below_drew1 | refine below_set ?_ (IsS100.ge HI0.out)) | exact HB.out)) hb); clear HI0; clear HK; clear HB; have HO102003 := n0_; have HI0 := n1_; have HK := n2_; have HB := n3_; clear n0_ n1_ n2_ n3_; clear hb ho4; obtain ⟨Ao5, co5, eo5⟩ := Kd.R_slice HO102003.out; subst eo5) | ((with_reducible refine gate_callee (f := 73) rfl ?_); refine goesL_ (some 5) rfl rfl Try.func73 (by kernel_rfl) rfl #[.pointer (some ⟨g, 0, none⟩), .slice Ao5 y102001.length co5] rfl (by (try simp only [List.map_toArray, List.map_cons, List.map_nil]); first | done | rfl | (simp only [List.length_drop, List.length_take]; rfl)) ?_; (with_reducible refine (spec_reader_one.calls k g s0_0 s0_1 _ _ y102001 t102004 t102005 w0 _ ?side1 ?side2 ?side3 ?side4 ?side5 A2.out).mono ?_); (case side1 => repeat (first | (with_reducible first | exact HI0.out | apply IsS100.alloc | apply IsS100.drewN | apply IsS100.drew | apply IsS100.set_1) | exact HI0.out)); (case side2 => repeat (first | (with_reducible first | exact HB.out | apply below_alloc | apply pw_below_drewN | apply below_drew1 | refine below_set ?_ (IsS100.ge HI0.out)) | exact HB.out)); (case side3 => repeat (first | exact (Kd.R_reads' HO102003.out).2.2 | (with_reducible refine Kd.C_alloc ?_ _) | (with_reducible refine Kd.C_drewN ?_ _) | (with_reducible refine Kd.C_drew ?_))); (case side4 => exact (Kd.R_reads' HO102003.out).2.1); (case side5 => exact far_slice (IsS100.own_ne HI0.out HO102003.out (by decide))); rintro e w6 ⟨rfl, hi, hb, hk⟩; refine ⟨_, rfl, ?_⟩; have n0_ := Aside0.mk (Kd.R_mono (Kd.R_keep (IsS100.apart (show IsS100 w0 _ g s0_0 s0_1 from by repeat (first | (with_reducible first | exact HI0.out | apply IsS100.alloc | apply IsS100.drewN | apply IsS100.drew | apply IsS100.set_1) | exact HI0.out)) (by (with_reducible repeat (first | apply Kd.R_alloc | apply Kd.R_drewN | apply Kd.R_drew)); exact HO102003.out) (by decide)) hk (fun _ h => h.2)) (fun _ h => h.1)); have n1_ := Aside0.mk (KeepBut.trans (by repeat (first | (with_reducible first | exact HK.out | apply KeepBut.set_ | apply keep_drewN | apply keep_drew | apply keep_alloc) | exact HK.out)) hk (.inl rfl)); have n2_ := Aside0.mk (hb); have n3_ := Aside0.mk (hi); clear HO102003; clear HK; clear HB; clear HI0; have HO102003 := n0_; have HK := n1_; have HB := n2_; have HI0 := n3_; clear n0_ n1_ n2_ n3_; (try clear hb); (try clear hb2); (try clear hk); (try clear hi)))
  go_ret
  exact ⟨by first | rfl | (simp [errW_none, errW_some] <;> rfl) | (simp [*, errW_none, errW_some] <;> rfl), by repeat (first | (with_reducible first | exact HI0.out | apply IsS100.alloc | apply IsS100.drewN | apply IsS100.drew | apply IsS100.set_1) | exact HI0.out), by repeat (first | (with_reducible first | exact HB.out | apply below_alloc | apply pw_below_drewN | apply below_drew1 | refine below_set ?_ (IsS100.ge HI0.out)) | exact HB.out), by repeat (first | (with_reducible first | exact HK.out | apply KeepBut.set_ | apply keep_drewN | apply keep_drew | apply keep_alloc) | exact HK.out)⟩


/- A row that may begin inside its block, and whose block is younger than was told. -/

theorem qraise {α : Type} {d : Kd α} {e : Nat} {W : World} {b b' : Nat} {ok : Nat → Prop} {v : Value} {xs : List α} (hM : ∀ w ok x cs, d.M w b ok x cs → d.M w b' ok x cs) (h : d.Q e W b ok v xs) (hb : ∀ k, v.ownBlock = some k → b' ≤ k) : d.Q e W b' ok v xs := by
  obtain ⟨h0, inner, ho, hr⟩ := h
  refine ⟨h0, inner, ?_, hr.imp_ (fun _ _ hp => hM _ _ _ _ hp)⟩
  obtain ⟨h1, h2⟩ := ho
  refine ⟨h1, ?_⟩
  rcases h2 with ⟨hz, A, rfl, hA⟩ | ⟨g, off, cap, cur, rfl, _, r⟩
  · refine .inl ⟨hz, A, rfl, fun a ha => ⟨?_, (hA a ha).2⟩⟩
    subst ha
    exact hb a.block (by simp [Value.ownBlock])
  · exact .inr ⟨g, off, cap, cur, rfl, hb g (by simp [Value.ownBlock]), r⟩

def spec_anyImage.f (k : Nat) (s0_0 : List Int) (s0_1 : Int) : Option (Int × Int × Int × List Int × Int) := (spec_anyPlanes.f k s0_0 s0_1).bind fun bt73002 => ((spec_randomImage.f k s0_0 bt73002.2 bt73002.1).bind fun bt73004 => ((spec_spoilImage.f k s0_0 bt73004.2.2.2.2 bt73004.1 bt73004.2.1 bt73004.2.2.1 bt73004.2.2.2.1).bind fun bt73011 => (some (bt73011.1, bt73011.2.1, bt73011.2.2.1, bt73011.2.2.2.1, bt73011.2.2.2.2))))
theorem spec_anyImage.mono : ∀ a0 a1 k, LeO (spec_anyImage.f k a0 a1) (spec_anyImage.f (k + 1) a0 a1) := by
  intro a0 a1 k
  unfold spec_anyImage.f
  repeat' first | (with_reducible exact spec_anyPlanes.mono _ _ _) | (with_reducible exact spec_randomImage.mono _ _ _ _) | (with_reducible exact spec_spoilImage.mono _ _ _ _ _ _ _) | (with_reducible exact LeO.refl _) | (with_reducible refine LeO.bind ?_ (fun _ => ?_))
set_option maxHeartbeats 8000000 in
set_option maxRecDepth 100000 in
theorem spec_anyImage.calls (k : Nat) (g : Nat) (s0_0 : List Int) (s0_1 : Int) (r1 : Int) (r2 : Int) (r3 : Int) (r4 : List Int) (r5 : Int) (w0 w : World) (hI : IsS100 w0 w g s0_0 s0_1) (hB : Below w0.heap.size w0 w) (h : spec_anyImage.f k s0_0 s0_1 = some (r1, r2, r3, r4, r5)) :
    Calls Try.prog 72 #[.pointer (some ⟨g, 0, none⟩)] w fun e w' => ∃ v3_ : Value, e = .returned (.agg #[.int .i64 r1, .int .i64 r2, .int .i64 r3, v3_]) ∧ Kd.Q (Kd.int .i64) 3 w' w.heap.size (fun _ => True) v3_ r4 ∧ IsS100 w0 w' g s0_0 r5 ∧ Below w0.heap.size w0 w' ∧ KeepBut w w' g none := by
  have hu28 := Try.underlying28
  have HI0 := Aside0.mk hI
  have HK := Aside0.mk (KeepBut.refl w g none)
  have HL := Aside0.mk hB.size
  clear hI
  have HW0 := Aside0.mk hB.size
  have HB := Aside0.mk hB
  clear hB
  have H : ((spec_anyPlanes.f k s0_0 s0_1).bind fun bt73002 => ((spec_randomImage.f k s0_0 bt73002.2 bt73002.1).bind fun bt73004 => ((spec_spoilImage.f k s0_0 bt73004.2.2.2.2 bt73004.1 bt73004.2.1 bt73004.2.2.1 bt73004.2.2.2.1).bind fun bt73011 => (some (bt73011.1, bt73011.2.1, bt73011.2.2.1, bt73011.2.2.2.1, bt73011.2.2.2.2))))) = some (r1, r2, r3, r4, r5) := h
  clear h
  replace H := Option.bind_eq_some_iff.mp H
  obtain ⟨⟨t73002, t73003⟩, A20, H⟩ := H
  replace H : ((spec_randomImage.f k s0_0 t73003 t73002).bind fun bt73004 => ((spec_spoilImage.f k s0_0 bt73004.2.2.2.2 bt73004.1 bt73004.2.1 bt73004.2.2.1 bt73004.2.2.2.1).bind fun bt73011 => (some (bt73011.1, bt73011.2.1, bt73011.2.2.1, bt73011.2.2.2.1, bt73011.2.2.2.2)))) = some (r1, r2, r3, r4, r5) := H
  have A2 := Aside0.mk A20
  clear A20
  replace H := Option.bind_eq_some_iff.mp H
  obtain ⟨⟨t73004, t73005, t73006, t73007, t73010⟩, A30, H⟩ := H
  replace H : ((spec_spoilImage.f k s0_0 t73010 t73004 t73005 t73006 t73007).bind fun bt73011 => (some (bt73011.1, bt73011.2.1, bt73011.2.2.1, bt73011.2.2.2.1, bt73011.2.2.2.2))) = some (r1, r2, r3, r4, r5) := H
  have A3 := Aside0.mk A30
  clear A30
  replace H := Option.bind_eq_some_iff.mp H
  obtain ⟨⟨t73011, t73012, t73013, t73014, t73017⟩, A40, H⟩ := H
  replace H : (some (t73011, t73012, t73013, t73014, t73017)) = some (r1, r2, r3, r4, r5) := H
  have A4 := Aside0.mk A40
  clear A40
  simp only [Option.some.injEq, Prod.mk.injEq] at H
  obtain ⟨rfl, rfl, rfl, rfl, rfl⟩ := H
  go_enter Try.func72, Try.ntmps72
  go_wp2_with (first | ((with_reducible refine gate_dst (N := 2) rfl ?_); refine box_event ?hg (N := 2) ?hd (cs := #[.int .i64 0, .int .i64 0, .int .i64 0, .slice none 0 0]) (t := 28) ?hr ?_; (case hd => rfl); (case hg => rfl); (case hr => (go_simp; done)); intro gb73001 hg w5 hbox hb; have n0_ := Aside0.mk (IsS100.below HI0.out hb); have n1_ := Aside0.mk (KeepBut.trans HK.out (KeepBut.of_below hb g none) (.inl rfl)); have n2_ := Aside0.mk (below_step HB.out hb); have n3_ := Aside0.mk (hbox); have n4_ := Aside0.mk ((by rw [hg]; exact (keep_size (w := w) (g := g) (row := none) HK.out) : w.heap.size ≤ gb73001)); have n5_ := Aside0.mk ((Nat.le_trans HW0.out (by rw [hg]; exact (keep_size (w := w) (g := g) (row := none) HK.out) : w.heap.size ≤ gb73001) : w0.heap.size ≤ gb73001)); have n6_ := Aside0.mk ((by rw [hg]; exact Nat.ne_of_lt (IsS100.lt (show IsS100 w0 _ g s0_0 s0_1 from by exact HI0.out)) : g ≠ gb73001)); have n7_ := Aside0.mk ((by rw [hg]; exact Nat.ne_of_gt (IsS100.lt (show IsS100 w0 _ g s0_0 s0_1 from by exact HI0.out)) : gb73001 ≠ g)); clear HI0; clear HK; clear HB; have HI0 := n0_; have HK := n1_; have HB := n2_; have BK73001 := n3_; have GW73001 := n4_; have GE73001 := n5_; have NB0_73001 := n6_; have NB73001_0 := n7_; clear n0_ n1_ n2_ n3_ n4_ n5_ n6_ n7_; clear hb hbox hg) | ((with_reducible refine gate_callee (f := 101) rfl ?_); refine goesL_ (some 6) rfl rfl Try.func101 (by kernel_rfl) rfl #[.pointer (some ⟨g, 0, none⟩)] rfl (by (try simp only [List.map_toArray, List.map_cons, List.map_nil]); rfl) ?_; (with_reducible refine (spec_anyPlanes.calls k g s0_0 s0_1 t73002 t73003 w0 _ ?side1 ?side2 A2.out).mono ?_); (case side1 => repeat (with_reducible exact HI0.out)); (case side2 => repeat (with_reducible exact HB.out)); rintro e w6 ⟨rfl, hi, hb, hk⟩; refine ⟨_, rfl, ?_⟩; have n0_ := Aside0.mk (KeepBut.blk hk (g' := gb73001) (o := .cells #[.int .i64 0, .int .i64 0, .int .i64 0, .slice none 0 0] 28 (0, 0)) BK73001.out NB73001_0.out (by simp)); have n1_ := Aside0.mk (KeepBut.trans HK.out hk (.inl rfl)); have n2_ := Aside0.mk (hb); have n3_ := Aside0.mk (hi); clear BK73001; clear HK; clear HB; clear HI0; have BK73001 := n0_; have HK := n1_; have HB := n2_; have HI0 := n3_; clear n0_ n1_ n2_ n3_; (try clear hb); (try clear hk); (try clear hi)) | ((with_reducible refine gate_callee (f := 100) rfl ?_); refine goesL_ (some 7) rfl rfl Try.func100 (by kernel_rfl) rfl #[.pointer (some ⟨g, 0, none⟩), .int .i64 t73002] rfl (by (try simp only [List.map_toArray, List.map_cons, List.map_nil]); rfl) ?_; (with_reducible refine (spec_randomImage.calls k g s0_0 t73003 t73002 t73004 t73005 t73006 t73007 t73010 w0 _ ?side1 ?side2 A3.out).mono ?_); (case side1 => repeat (with_reducible exact HI0.out)); (case side2 => repeat (with_reducible exact HB.out)); rintro e w7 ⟨v73008, rfl, ho0, hi, hb, hk⟩; refine ⟨_, rfl, ?_⟩; have n0_ := Aside0.mk (KeepBut.blk hk (g' := gb73001) (o := .cells #[.int .i64 0, .int .i64 0, .int .i64 0, .slice none 0 0] 28 (0, 0)) BK73001.out NB73001_0.out (by simp)); have n1_ := Aside0.mk (Kd.R_lower ho0 (keep_size (w := w) (g := g) (row := none) HK.out)); have n2_ := Aside0.mk (KeepBut.trans HK.out hk (.inl rfl)); have n3_ := Aside0.mk (hb); have n4_ := Aside0.mk (hi); clear BK73001; clear HK; clear HB; clear HI0; have BK73001 := n0_; have HO73009 := n1_; have HK := n2_; have HB := n3_; have HI0 := n4_; clear n0_ n1_ n2_ n3_ n4_; (try clear hb); (try clear hk); (try clear hi); (try clear ho0); obtain ⟨Ao8, co8, eo8⟩ := Kd.R_slice HO73009.out; subst eo8) | ((with_reducible refine gate_callee (f := 99) rfl ?_); refine goesL_ (some 8) rfl rfl Try.func99 (by kernel_rfl) rfl #[.pointer (some ⟨g, 0, none⟩), .agg #[.int .i64 t73004, .int .i64 t73005, .int .i64 t73006, .slice Ao8 t73007.length co8]] rfl (by (try simp only [List.map_toArray, List.map_cons, List.map_nil]); rfl) ?_; (with_reducible refine (spec_spoilImage.calls k g s0_0 t73010 t73004 t73005 t73006 (fun k_ => some k_ = (.slice Ao8 t73007.length co8 : Value).ownBlock) (.slice Ao8 t73007.length co8) t73007 t73011 t73012 t73013 t73014 t73017 w0 _ ?side1 ?side2 ?side3 A4.out).mono ?_); (case side1 => repeat (with_reducible exact HI0.out)); (case side2 => repeat (with_reducible exact HB.out)); (case side3 => exact Kd.R_lower (Kd.R_tight rfl HO73009.out) HL.out); rintro e w9 ⟨v73015, rfl, ho0, hi, hb, hkp⟩; refine ⟨_, rfl, ?_⟩; have n0_ := Aside0.mk (hi); have n1_ := Aside0.mk (blk_kept BK73001.out hkp (fun hs_ => Or.elim hs_ (fun hs_ => (fun e_ => (Kd.R_ne HO73009.out BK73001.out (by decide)) e_) hs_) (fun e_ => NB73001_0.out e_))); have n2_ := Aside0.mk (Kd.Q_mono (ok' := fun k_ => True) (qraise (d := (Kd.int .i64)) (b := w0.heap.size) (b' := w.heap.size) (fun _ _ _ _ h_ => h_) ho0 (fun k_ e_ => Or.elim (ho0.1 k_ e_) (fun hs_ => (fun e_ => Kd.R_base HO73009.out k_ e_.symm) hs_) (fun hn_ => Nat.le_trans (keep_size (w := w) (g := g) (row := none) HK.out) hn_))) (fun k_ hk_ => trivial)); have n3_ := Aside0.mk (Kept.keepG HK.out hkp (fun k_ hs_ => Or.elim hs_ (fun hs_ => (fun e_ => .inr (Kd.R_base HO73009.out k_ e_.symm)) hs_) (fun e_ => .inl e_))); have n4_ := Aside0.mk (hb); clear HI0; clear BK73001; clear HK; clear HB; clear HO73009; have HI0 := n0_; have BK73001 := n1_; have HO73016 := n2_; have HK := n3_; have HB := n4_; clear n0_ n1_ n2_ n3_ n4_; (try clear hb); (try clear hkp); (try clear ho0); have hnb10 := NB73001_0.out; have hnc10 := NB0_73001.out; have hcz11_0 : w9.cell? ⟨gb73001, 0, none⟩ = some (.int .i64 0) := (blk_cell BK73001.out 0).trans rfl; have hcz11_1 : w9.cell? ⟨gb73001, 1, none⟩ = some (.int .i64 0) := (blk_cell BK73001.out 1).trans rfl; have hcz11_2 : w9.cell? ⟨gb73001, 2, none⟩ = some (.int .i64 0) := (blk_cell BK73001.out 2).trans rfl; have hcz11_3 : w9.cell? ⟨gb73001, 3, none⟩ = some (.slice none 0 0) := (blk_cell BK73001.out 3).trans rfl; have hfz11_0 := blk_frozen BK73001.out 0; have hfz11_1 := blk_frozen BK73001.out 1; have hfz11_2 := blk_frozen BK73001.out 2; have hfz11_3 := blk_frozen BK73001.out 3; obtain ⟨Ao12, co12, eo12, _⟩ := Kd.Q_slice HO73016.out; subst eo12))
  refine bodyPost_ret (results_cell_row rfl _ _ gb73001 28 #[.int .i64 t73011, .int .i64 t73012, .int .i64 t73013, .slice Ao12 t73014.length co12] (0, 0) _ rfl (by refine blk_put (cs := #[.int .i64 t73011, .int .i64 t73012, .int .i64 t73013, .slice none 0 0]) ?_ 3 _ rfl; (with_reducible repeat (first | refine blk_drewN ?_ _ | refine blk_drew ?_ | refine blk_alloc ?_ _)); refine blk_put (cs := #[.int .i64 t73011, .int .i64 t73012, .int .i64 0, .slice none 0 0]) ?_ 2 _ rfl; (with_reducible repeat (first | refine blk_drewN ?_ _ | refine blk_drew ?_ | refine blk_alloc ?_ _)); refine blk_put (cs := #[.int .i64 t73011, .int .i64 0, .int .i64 0, .slice none 0 0]) ?_ 1 _ rfl; (with_reducible repeat (first | refine blk_drewN ?_ _ | refine blk_drew ?_ | refine blk_alloc ?_ _)); refine blk_put (cs := #[.int .i64 0, .int .i64 0, .int .i64 0, .slice none 0 0]) ?_ 0 _ rfl; (with_reducible repeat (first | refine blk_drewN ?_ _ | refine blk_drew ?_ | refine blk_alloc ?_ _)); exact BK73001.out) Try.underlying28 rfl (by kernel_rfl)) rfl ?_
  exact ⟨_, by rfl, by (with_reducible repeat (first | apply Kd.Q_alloc | apply Kd.Q_drewN | apply Kd.Q_drew)); exact Kd.Q_mono (Kd.Q_far (p := ⟨gb73001, 3, none⟩) (Kd.Q_far (p := ⟨gb73001, 2, none⟩) (Kd.Q_far (p := ⟨gb73001, 1, none⟩) (Kd.Q_far (p := ⟨gb73001, 0, none⟩) (Kd.Q_types HO73016.out BK73001.out (by decide)) (fun _ hk => hk.2) (.int .i64 t73011)) (fun _ hk => hk.2) (.int .i64 t73012)) (fun _ hk => hk.2) (.int .i64 t73013)) (fun _ hk => hk.2) (.slice Ao12 t73014.length co12)) (fun _ hk => trivial), by repeat (with_reducible first | exact HI0.out | refine IsS100.far ?_ NB0_73001.out _), by repeat (with_reducible first | exact HB.out | refine below_set ?_ GE73001.out), by repeat (with_reducible first | exact HK.out | refine keep_far ?_ GW73001.out _)⟩

end Go.Proofs.Ytbgohbinonkhfaa.Q
