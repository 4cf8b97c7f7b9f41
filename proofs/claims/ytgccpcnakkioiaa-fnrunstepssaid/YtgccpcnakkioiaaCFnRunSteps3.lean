/- A part of the proof that the statement FnRunStepsSaid holds, under no condition of its own: Steps are performed one by one: the law FnRunSteps over lists of numbers alone. -/
import Derived.Test.YtgccpcnakkioiaaCFnRunSteps2
import Derived.Test.YtgccpcnakkioiaaCFnRunSteps1
/- impl.InvertImage: each number subtracted from 255. -/
namespace Go.Proofs.Ytgccpcnakkioiaa.Q
open Go.RowKit Go.Proofs.YtgccpcnakkioiaaW.PrintWords Go.Proofs.YtgccpcnakkioiaaW.PrintLast Go.Proofs.YtgccpcnakkioiaaW.PrintMore
open Go.Proofs.YtgccpcnakkioiaaW.PrintWords.Aside0 (mk)
attribute [local go_sem] max2_int min2_int max_two min_two max_three min_three max_four min_four
set_option linter.unusedVariables false
set_option linter.unusedSimpArgs false
open Go.Proofs.Ytgccpcnakkioiaa.Pure

def invD (d : List Int) : List Int := d.map (fun n => wrap64 (255 - n))
def impl_InvertImage.f (a b p : Int) (d : List Int) : Option (Int × Int × Int × List Int) := some (if validI a b p d = true then (a, b, p, invD d) else (0, 0, 0, []))

set_option maxHeartbeats 4000000 in
set_option maxRecDepth 100000 in
theorem impl_InvertImage.calls (a b p : Int) (A : Option Addr) (c : Nat) (d : List Int) (r1 r2 r3 : Int) (r4 : List Int) (w : World) (hr0_3 : Kd.C (Kd.int .i64) w A d.length d) (hc0_3 : d.length ≤ c) (h : impl_InvertImage.f a b p d = some (r1, r2, r3, r4)) :
  Calls Try.prog 27 #[.agg #[.int .i64 a, .int .i64 b, .int .i64 p, .slice A d.length c]] w fun e w' => ∃ v3_ : Value, e = .returned (.agg #[.int .i64 r1, .int .i64 r2, .int .i64 r3, v3_]) ∧ Kd.R (Kd.int .i64) 3 w' w.heap.size (fun _ => True) v3_ r4 ∧ Below w.heap.size w w' := by
 have hv := Option.some.inj h
 clear h
 have HC := mk hc0_3
 have HR := mk hr0_3
 have HB0 := mk (Below.refl w.heap.size w)
 have E1 := mk (impl_isImage_eq a b p d)
 have hu := Try.underlying28
 clear hr0_3 hc0_3
 cases hv1 : validI a b p d with
 | false =>
  rw [hv1, if_neg (by simp)] at hv
  obtain ⟨rfl, rfl, rfl, rfl⟩ : 0 = r1 ∧ 0 = r2 ∧ 0 = r3 ∧ [] = r4 := by simpa using hv
  rw [hv1] at E1
  clear hv1 hv
  go_enter Try.func27, Try.ntmps27
  go_wp2_with (first
   | ((with_reducible refine gate_dst (N := 1) rfl ?_); refine box_event ?hg (N := 1) ?hd (cs := #[.int .i64 a, .int .i64 b, .int .i64 p, .slice A d.length c]) (t := 28) ?hr ?_; (case hd => rfl); (case hg => rfl); (case hr => first | (go_simp; done) | (go_simp; rfl)); intro g1 hg_ w1 hbox hb; have HB1 := mk (below_then HB0.out HB0.out.size hb); have K1 := mk hbox; have Gg1 := mk (show w.heap.size ≤ g1 from by rw [hg_]; exact HB0.out.size); have f0 : w1.cell? ⟨g1, 0, none⟩ = some (.int .i64 a) := (blk_cell K1.out 0).trans rfl; have f1 : w1.cell? ⟨g1, 1, none⟩ = some (.int .i64 b) := (blk_cell K1.out 1).trans rfl; have f2 : w1.cell? ⟨g1, 2, none⟩ = some (.int .i64 p) := (blk_cell K1.out 2).trans rfl; have f3 : w1.cell? ⟨g1, 3, none⟩ = some (.slice A d.length c) := (blk_cell K1.out 3).trans rfl; clear hbox hb hg_)
   | ((with_reducible refine gate_dst (N := 2) rfl ?_); refine box_event ?hg (N := 2) ?hd (cs := #[.int .i64 0, .int .i64 0, .int .i64 0, .slice none 0 0]) (t := 28) ?hr ?_; (case hd => rfl); (case hg => rfl); (case hr => first | (go_simp; done) | (go_simp; rfl)); intro g2 hg_ w2 hbox hb; have HB2 := mk (below_then HB1.out HB1.out.size hb); have K2 := mk hbox; have Gg2 := mk (show w.heap.size ≤ g2 from by rw [hg_]; exact HB1.out.size); have K1b := mk (blk_below K1.out hb); have f0 : w2.cell? ⟨g1, 0, none⟩ = some (.int .i64 a) := (blk_cell K1b.out 0).trans rfl; have f1 : w2.cell? ⟨g1, 1, none⟩ = some (.int .i64 b) := (blk_cell K1b.out 1).trans rfl; have f2 : w2.cell? ⟨g1, 2, none⟩ = some (.int .i64 p) := (blk_cell K1b.out 2).trans rfl; have f3 : w2.cell? ⟨g1, 3, none⟩ = some (.slice A d.length c) := (blk_cell K1b.out 3).trans rfl; clear hbox hb hg_)
   | (go_at_call 43; (with_reducible refine (impl_isImage.calls a b p A c d _ w2 (Kd.C_below HR.out HB2.out) HC.out E1.out).mono ?_); rintro e w3 ⟨rfl, hb3⟩; have HB3 := mk (below_then HB2.out HB2.out.size hb3); have K1c := mk (blk_below K1b.out hb3); have K2c := mk (blk_below K2.out hb3); have e0 : w3.cell? ⟨g1, 0, none⟩ = some (.int .i64 a) := (blk_cell K1c.out 0).trans rfl; have e1 : w3.cell? ⟨g1, 1, none⟩ = some (.int .i64 b) := (blk_cell K1c.out 1).trans rfl; have e2 : w3.cell? ⟨g1, 2, none⟩ = some (.int .i64 p) := (blk_cell K1c.out 2).trans rfl; have e3 : w3.cell? ⟨g1, 3, none⟩ = some (.slice A d.length c) := (blk_cell K1c.out 3).trans rfl; have z0 := blk_cell K2c.out 0; have z1 := blk_cell K2c.out 1; have z2 := blk_cell K2c.out 2; have z3 := blk_cell K2c.out 3; have y0 := blk_frozen K2c.out 0; have y1 := blk_frozen K2c.out 1; have y2 := blk_frozen K2c.out 2; have y3 := blk_frozen K2c.out 3; clear hb3))
  refine bodyPost_ret (results_cell_row rfl _ _ g2 28 #[.int .i64 0, .int .i64 0, .int .i64 0, .slice none 0 0] (0, 0) _ rfl (by
   refine blk_put (cs := #[.int .i64 0, .int .i64 0, .int .i64 0, .slice none 0 0]) ?_ 3 _ rfl
   refine blk_put (cs := #[.int .i64 0, .int .i64 0, .int .i64 0, .slice none 0 0]) ?_ 2 _ rfl
   refine blk_put (cs := #[.int .i64 0, .int .i64 0, .int .i64 0, .slice none 0 0]) ?_ 1 _ rfl
   refine blk_put (cs := #[.int .i64 0, .int .i64 0, .int .i64 0, .slice none 0 0]) ?_ 0 _ rfl
   exact K2c.out) hu rfl (by kernel_rfl)) rfl ?_
  have G2 := Gg2.out
  exact ⟨_, rfl, Kd.R_nil _ _ _ _ _, below_set (below_set (below_set (below_set HB3.out (by omega)) (by omega)) (by omega)) (by omega)⟩
 | true =>
  obtain ⟨⟨hs, hl, _⟩⟩ : Nonempty ((1 ≤ a ∧ a ≤ 16 ∧ 1 ≤ b ∧ b ≤ 16 ∧ 1 ≤ p ∧ p ≤ 4) ∧ (d.length : Int) = a * b * p ∧ True) := ⟨((validI_iff a b p d).1 hv1).1, ((validI_iff a b p d).1 hv1).2.1, trivial⟩
  have hsp := shape_prod hs
  have hpos : 0 < a * b * p := Int.mul_pos (Int.mul_pos (by omega) (by omega)) (by omega)
  have HL := mk (show d.length ≤ 1024 by omega)
  have HN := mk (show 0 < d.length by omega)
  have EG := mk (show ∀ args W, (callFunc 58 args).run Try.prog W = .ok (.enter 58 args) W from enters_of Try.func58 (by kernel_rfl) rfl)
  have EP := mk (show ∀ (W : World) (n : Int), n ∈ d → Calls Try.prog 58 #[.int .i64 n] W fun e W' => e = .returned (.int .i64 (wrap64 (255 - n))) ∧ Below W.heap.size W W' from fun W n _ => (impl_InvertImage_1.calls n _ W rfl).mono (fun e W' h => ⟨h.1, h.2.below⟩))
  clear hl hsp hpos hs
  rw [hv1, if_pos rfl] at hv
  obtain ⟨rfl, rfl, rfl, rfl⟩ : a = r1 ∧ b = r2 ∧ p = r3 ∧ invD d = r4 := by simpa using hv
  rw [hv1] at E1
  clear hv1 hv
  go_enter Try.func27, Try.ntmps27
  go_wp2_with (first
   | ((with_reducible refine gate_dst (N := 1) rfl ?_); refine box_event ?hg (N := 1) ?hd (cs := #[.int .i64 a, .int .i64 b, .int .i64 p, .slice A d.length c]) (t := 28) ?hr ?_; (case hd => rfl); (case hg => rfl); (case hr => first | (go_simp; done) | (go_simp; rfl)); intro g1 hg_ w1 hbox hb; have HB1 := mk (below_then HB0.out HB0.out.size hb); have K1 := mk hbox; have Gg1 := mk (show w.heap.size ≤ g1 from by rw [hg_]; exact HB0.out.size); have f0 : w1.cell? ⟨g1, 0, none⟩ = some (.int .i64 a) := (blk_cell K1.out 0).trans rfl; have f1 : w1.cell? ⟨g1, 1, none⟩ = some (.int .i64 b) := (blk_cell K1.out 1).trans rfl; have f2 : w1.cell? ⟨g1, 2, none⟩ = some (.int .i64 p) := (blk_cell K1.out 2).trans rfl; have f3 : w1.cell? ⟨g1, 3, none⟩ = some (.slice A d.length c) := (blk_cell K1.out 3).trans rfl; clear hbox hb hg_)
   | ((with_reducible refine gate_dst (N := 2) rfl ?_); refine box_event ?hg (N := 2) ?hd (cs := #[.int .i64 0, .int .i64 0, .int .i64 0, .slice none 0 0]) (t := 28) ?hr ?_; (case hd => rfl); (case hg => rfl); (case hr => first | (go_simp; done) | (go_simp; rfl)); intro g2 hg_ w2 hbox hb; have HB2 := mk (below_then HB1.out HB1.out.size hb); have K2 := mk hbox; have Gg2 := mk (show w.heap.size ≤ g2 from by rw [hg_]; exact HB1.out.size); have K1b := mk (blk_below K1.out hb); have f0 : w2.cell? ⟨g1, 0, none⟩ = some (.int .i64 a) := (blk_cell K1b.out 0).trans rfl; have f1 : w2.cell? ⟨g1, 1, none⟩ = some (.int .i64 b) := (blk_cell K1b.out 1).trans rfl; have f2 : w2.cell? ⟨g1, 2, none⟩ = some (.int .i64 p) := (blk_cell K1b.out 2).trans rfl; have f3 : w2.cell? ⟨g1, 3, none⟩ = some (.slice A d.length c) := (blk_cell K1b.out 3).trans rfl; clear hbox hb hg_)
   | (go_at_call 43; (with_reducible refine (impl_isImage.calls a b p A c d _ w2 (Kd.C_below HR.out HB2.out) HC.out E1.out).mono ?_); rintro e w3 ⟨rfl, hb3⟩; have HB3 := mk (below_then HB2.out HB2.out.size hb3); have K1c := mk (blk_below K1b.out hb3); have K2c := mk (blk_below K2.out hb3); have e0 : w3.cell? ⟨g1, 0, none⟩ = some (.int .i64 a) := (blk_cell K1c.out 0).trans rfl; have e1 : w3.cell? ⟨g1, 1, none⟩ = some (.int .i64 b) := (blk_cell K1c.out 1).trans rfl; have e2 : w3.cell? ⟨g1, 2, none⟩ = some (.int .i64 p) := (blk_cell K1c.out 2).trans rfl; have e3 : w3.cell? ⟨g1, 3, none⟩ = some (.slice A d.length c) := (blk_cell K1c.out 3).trans rfl; have z0 := blk_cell K2c.out 0; have z1 := blk_cell K2c.out 1; have z2 := blk_cell K2c.out 2; have z3 := blk_cell K2c.out 3; have y0 := blk_frozen K2c.out 0; have y1 := blk_frozen K2c.out 1; have y2 := blk_frozen K2c.out 2; have y3 := blk_frozen K2c.out 3; clear hb3)
   | (go_at_call 57; (with_reducible refine (map_calls 58 (fun n => wrap64 (255 - n)) a b p A c d HC.out HL.out HN.out w3 (Kd.C_below HR.out HB3.out) EG.out EP.out).mono ?_); rintro e w4 ⟨v4, rfl, hr4, hb4⟩; have HB4 := mk (below_then HB3.out HB3.out.size hb4); obtain ⟨gr, cr, e4, _, _, _⟩ := Kd.R_form hr4 (by rw [List.length_map]; exact HN.out); subst e4; simp only [List.length_map] at hr4; have HR4 := mk (Kd.R_lower hr4 HB3.out.size); have K2d := mk (blk_below K2c.out hb4); have x0 := blk_cell K2d.out 0; have x1 := blk_cell K2d.out 1; have x2 := blk_cell K2d.out 2; have x3 := blk_cell K2d.out 3; have u0 := blk_frozen K2d.out 0; have u1 := blk_frozen K2d.out 1; have u2 := blk_frozen K2d.out 2; have u3 := blk_frozen K2d.out 3; clear hr4 hb4))
  have G2 := Gg2.out
  have RR := Kd.R_types HR4.out K2d.out (by decide)
  refine bodyPost_ret (results_cell_row rfl _ _ g2 28 #[.int .i64 a, .int .i64 b, .int .i64 p, .slice (some ⟨gr, 0, none⟩) d.length cr] (0, 0) _ rfl (by
   refine blk_put (cs := #[.int .i64 a, .int .i64 b, .int .i64 p, .slice none 0 0]) ?_ 3 _ rfl
   refine blk_put (cs := #[.int .i64 a, .int .i64 b, .int .i64 0, .slice none 0 0]) ?_ 2 _ rfl
   refine blk_put (cs := #[.int .i64 a, .int .i64 0, .int .i64 0, .slice none 0 0]) ?_ 1 _ rfl
   refine blk_put (cs := #[.int .i64 0, .int .i64 0, .int .i64 0, .slice none 0 0]) ?_ 0 _ rfl
   exact K2d.out) hu rfl (by kernel_rfl)) rfl ?_
  exact ⟨_, rfl, Kd.R_mono (Kd.R_far (Kd.R_far (Kd.R_far (Kd.R_far RR (fun k hk => hk.2) _) (fun k hk => hk.2) _) (fun k hk => hk.2) _) (fun k hk => hk.2) _) (fun _ _ => trivial), below_set (below_set (below_set (below_set HB4.out (by omega)) (by omega)) (by omega)) (by omega)⟩
end Go.Proofs.Ytgccpcnakkioiaa.Q

/- impl.CropImage's function value: a pixel of a part. -/
namespace Go.Proofs.Ytgccpcnakkioiaa.Q
open Go.RowKit Go.Proofs.YtgccpcnakkioiaaW.PrintWords Go.Proofs.YtgccpcnakkioiaaW.PrintLast Go.Proofs.YtgccpcnakkioiaaW.PrintMore
attribute [local go_sem] max2_int min2_int max_two min_two max_three min_three max_four min_four
set_option linter.unusedVariables false
set_option linter.unusedSimpArgs false
open Go.Proofs.Ytgccpcnakkioiaa.Pure

set_option maxHeartbeats 1600000 in
set_option maxRecDepth 100000 in
theorem crop1_calls (a b p : Int) (A : Option Addr) (c : Nat) (d : List Int) (hv : validI a b p d = true) (hc : d.length ≤ c) (X Y : Nat) (Wd Hg : Int) (x y : Nat) (hx : ((X + x : Nat) : Int) < a) (hy : ((Y + y : Nat) : Int) < b) (B : Nat) (w : World) (h1 : w.heap[B]? = some (.cells #[.int .i64 a, .int .i64 b, .int .i64 p, .slice A d.length c] 28 (0, 0))) (B2 : Nat) (h2 : w.heap[B2]? = some (.cells #[.int .i64 (X : Int), .int .i64 (Y : Int), .int .i64 Wd, .int .i64 Hg] 41 (0, 0))) (hr : Kd.C (Kd.int .i64) w A d.length d) :
  Calls Try.prog 60 (#[.int .i64 (x : Int), .int .i64 (y : Int)] ++ #[.pointer (some ⟨B, 0, none⟩), .pointer (some ⟨B2, 0, none⟩)]) w fun e w' => ∃ (A' : Option Addr) (c' : Nat), e = .returned (.slice A' (pxAt a p d (X + x) (Y + y)).length c') ∧ Kd.C (Kd.int .i64) w' A' (pxAt a p d (X + x) (Y + y)).length (pxAt a p d (X + x) (Y + y)) ∧ (pxAt a p d (X + x) (Y + y)).length ≤ c' ∧ Below w.heap.size w w' := by
 have hs := ((validI_iff a b p d).1 hv).1
 have k0 := (blk_cell h1 0).trans rfl; have k1 := (blk_cell h1 1).trans rfl; have k2 := (blk_cell h1 2).trans rfl; have k3 := (blk_cell h1 3).trans rfl
 have q0 := (blk_cell h2 0).trans rfl; have q1 := (blk_cell h2 1).trans rfl; have q2 := (blk_cell h2 2).trans rfl; have q3 := (blk_cell h2 3).trans rfl
 have hX : ((X + x : Nat) : Int) = (X : Int) + (x : Int) := by omega
 have hY : ((Y + y : Nat) : Int) = (Y : Int) + (y : Int) := by omega
 obtain ⟨A', c', hc', HA⟩ := at_px (x := X + x) (y := Y + y) A c hv hc hx hy
 have HA' := HA w hr
 rw [hX, hY] at HA'
 generalize pxAt a p d (X + x) (Y + y) = px at *
 replace HA' := Aside0.mk HA'
 clear HA hr h1 hv hc
 simp only [List.append_toArray, List.cons_append, List.nil_append]
 go_enter Try.func60, Try.ntmps60
 go_wp2_with (first | (go_at_call 55; (with_reducible refine (HA'.out.2).mono ?_); rintro e w2 ⟨rfl, hb⟩))
 go_ret
 exact ⟨A', c', rfl, Kd.C_below HA'.out.1 hb, hc', hb⟩
end Go.Proofs.Ytgccpcnakkioiaa.Q

namespace Go.Proofs.Ytgccpcnakkioiaa.Q
open Go.RowKit Go.Proofs.YtgccpcnakkioiaaW.PrintWords Go.Proofs.YtgccpcnakkioiaaW.PrintLast Go.Proofs.YtgccpcnakkioiaaW.PrintMore
open Go.Proofs.YtgccpcnakkioiaaW.PrintWords.Aside0 (mk)
attribute [local go_sem] max2_int min2_int max_two min_two max_three min_three max_four min_four
set_option linter.unusedVariables false
set_option linter.unusedSimpArgs false
def impl_isBoxOn.f (a0_0 : Int) (a0_1 : Int) (a0_2 : Int) (l0_3 : List Int) (a1_0 : Int) (a1_1 : Int) (a1_2 : Int) (a1_3 : Int) : Option Bool := if a1_0 ≥ 0 then (if a1_0 < a0_0 then (if a1_1 ≥ 0 then (if a1_1 < a0_1 then (if a1_2 ≥ 1 then (if a1_2 ≤ (wrap64 (a0_0 - a1_0)) then (if a1_3 ≥ 1 then (some (decide (a1_3 ≤ (wrap64 (a0_1 - a1_1))))) else (some false)) else (some false)) else (some false)) else (some false)) else (some false)) else (some false)) else (some false)
set_option maxHeartbeats 8000000 in
set_option maxRecDepth 100000 in
theorem impl_isBoxOn.calls (a0_0 : Int) (a0_1 : Int) (a0_2 : Int) (A0_3 : Option Addr) (c0_3 : Nat) (l0_3 : List Int) (a1_0 : Int) (a1_1 : Int) (a1_2 : Int) (a1_3 : Int) (r : Bool) (w : World) (hr0_3 : Kd.C (Kd.int .i64) w A0_3 l0_3.length l0_3) (hc0_3 : l0_3.length ≤ c0_3) (h : impl_isBoxOn.f a0_0 a0_1 a0_2 l0_3 a1_0 a1_1 a1_2 a1_3 = some r) :
  Calls Try.prog 59 #[.agg #[.int .i64 a0_0, .int .i64 a0_1, .int .i64 a0_2, .slice A0_3 l0_3.length c0_3], .agg #[.int .i64 a1_0, .int .i64 a1_1, .int .i64 a1_2, .int .i64 a1_3]] w fun e w' => e = .returned (.bool r) ∧ Below w.heap.size w w' := by
 have hu28 := Try.underlying28
 have hu41 := Try.underlying41
 have HR0_3 := mk hr0_3
 have HC0_3 := mk hc0_3
 clear hr0_3 hc0_3
 have HB := mk (Below.refl w.heap.size w)
 have H : (if a1_0 ≥ 0 then (if a1_0 < a0_0 then (if a1_1 ≥ 0 then (if a1_1 < a0_1 then (if a1_2 ≥ 1 then (if a1_2 ≤ (wrap64 (a0_0 - a1_0)) then (if a1_3 ≥ 1 then (some (decide (a1_3 ≤ (wrap64 (a0_1 - a1_1))))) else (some false)) else (some false)) else (some false)) else (some false)) else (some false)) else (some false)) else (some false)) = some r := h
 clear h
 by_cases c3 : a1_0 ≥ 0
 ·rw [if_pos c3] at H
  have c3b0 : decide (0 ≤ a1_0) = true := decide_eq_true c3
  clear c3
  by_cases c4 : a1_0 < a0_0
  ·rw [if_pos c4] at H
   have c4b0 : decide (a1_0 < a0_0) = true := decide_eq_true c4
   clear c4
   by_cases c5 : a1_1 ≥ 0
   ·rw [if_pos c5] at H
    have c5b0 : decide (0 ≤ a1_1) = true := decide_eq_true c5
    clear c5
    by_cases c6 : a1_1 < a0_1
    ·rw [if_pos c6] at H
     have c6b0 : decide (a1_1 < a0_1) = true := decide_eq_true c6
     clear c6
     by_cases c7 : a1_2 ≥ 1
     ·rw [if_pos c7] at H
      have c7b0 : decide (1 ≤ a1_2) = true := decide_eq_true c7
      clear c7
      by_cases c8 : a1_2 ≤ (wrap64 (a0_0 - a1_0))
      ·rw [if_pos c8] at H
       have c8b0 : decide (a1_2 ≤ (wrap64 (a0_0 - a1_0))) = true := decide_eq_true c8
       clear c8
       by_cases c9 : a1_3 ≥ 1
       ·rw [if_pos c9] at H
        have c9b0 : decide (1 ≤ a1_3) = true := decide_eq_true c9
        clear c9
        obtain rfl := Option.some.inj H
        go_enter Try.func59, Try.ntmps59
        go_wp2_with (first | ((with_reducible refine gate_dst (N := 2) rfl ?_); refine box_event (by rfl) (N := 2) (by rfl) (cs := #[.int .i64 a0_0, .int .i64 a0_1, .int .i64 a0_2, .slice A0_3 l0_3.length c0_3]) (t := 28) (by go_simp; done) ?_; intro gbz1 hg w10 hbox hb; replace HB := mk (below_step HB.out hb); have BKz0 := mk (hbox); clear hb hbox hg) | ((with_reducible refine gate_dst (N := 3) rfl ?_); refine box_event (by rfl) (N := 3) (by rfl) (cs := #[.int .i64 a1_0, .int .i64 a1_1, .int .i64 a1_2, .int .i64 a1_3]) (t := 41) (by go_simp; done) ?_; intro gbz0 hg w11 hbox hb; replace BKz0 := mk (blk_below BKz0.out hb); replace HB := mk (below_step HB.out hb); have BKz1 := mk (hbox); clear hb hbox hg; obtain ⟨hcz13_0, hcz13_1, hcz13_2, hcz13_3, -⟩ := c4 BKz1.out; obtain ⟨hcz14_0, hcz14_1, -⟩ := c4 BKz0.out))
        go_ret
        exact ⟨by rfl, by exact HB.out⟩
       rw [if_neg c9] at H
       have c9b0 : decide (1 ≤ a1_3) = false := decide_eq_false c9
       clear c9
       obtain rfl := Option.some.inj H
       go_enter Try.func59, Try.ntmps59
       go_wp2_with (first | ((with_reducible refine gate_dst (N := 2) rfl ?_); refine box_event (by rfl) (N := 2) (by rfl) (cs := #[.int .i64 a0_0, .int .i64 a0_1, .int .i64 a0_2, .slice A0_3 l0_3.length c0_3]) (t := 28) (by go_simp; done) ?_; intro gbz1 hg w15 hbox hb; replace HB := mk (below_step HB.out hb); have BKz0 := mk (hbox); clear hb hbox hg) | ((with_reducible refine gate_dst (N := 3) rfl ?_); refine box_event (by rfl) (N := 3) (by rfl) (cs := #[.int .i64 a1_0, .int .i64 a1_1, .int .i64 a1_2, .int .i64 a1_3]) (t := 41) (by go_simp; done) ?_; intro gbz0 hg w16 hbox hb; replace BKz0 := mk (blk_below BKz0.out hb); replace HB := mk (below_step HB.out hb); have BKz1 := mk (hbox); clear hb hbox hg; obtain ⟨hcz18_0, hcz18_1, hcz18_2, hcz18_3, -⟩ := c4 BKz1.out; obtain ⟨hcz19_0, hcz19_1, -⟩ := c4 BKz0.out))
       go_ret
       exact ⟨by rfl, by exact HB.out⟩
      rw [if_neg c8] at H
      have c8b0 : decide (a1_2 ≤ (wrap64 (a0_0 - a1_0))) = false := decide_eq_false c8
      clear c8
      obtain rfl := Option.some.inj H
      go_enter Try.func59, Try.ntmps59
      go_wp2_with (first | ((with_reducible refine gate_dst (N := 2) rfl ?_); refine box_event (by rfl) (N := 2) (by rfl) (cs := #[.int .i64 a0_0, .int .i64 a0_1, .int .i64 a0_2, .slice A0_3 l0_3.length c0_3]) (t := 28) (by go_simp; done) ?_; intro gbz1 hg w20 hbox hb; replace HB := mk (below_step HB.out hb); have BKz0 := mk (hbox); clear hb hbox hg) | ((with_reducible refine gate_dst (N := 3) rfl ?_); refine box_event (by rfl) (N := 3) (by rfl) (cs := #[.int .i64 a1_0, .int .i64 a1_1, .int .i64 a1_2, .int .i64 a1_3]) (t := 41) (by go_simp; done) ?_; intro gbz0 hg w21 hbox hb; replace BKz0 := mk (blk_below BKz0.out hb); replace HB := mk (below_step HB.out hb); have BKz1 := mk (hbox); clear hb hbox hg; obtain ⟨hcz23_0, hcz23_1, hcz23_2, -⟩ := c4 BKz1.out; obtain ⟨hcz24_0, hcz24_1, -⟩ := c4 BKz0.out))
      go_ret
      exact ⟨by rfl, by exact HB.out⟩
     rw [if_neg c7] at H
     have c7b0 : decide (1 ≤ a1_2) = false := decide_eq_false c7
     clear c7
     obtain rfl := Option.some.inj H
     go_enter Try.func59, Try.ntmps59
     go_wp2_with (first | ((with_reducible refine gate_dst (N := 2) rfl ?_); refine box_event (by rfl) (N := 2) (by rfl) (cs := #[.int .i64 a0_0, .int .i64 a0_1, .int .i64 a0_2, .slice A0_3 l0_3.length c0_3]) (t := 28) (by go_simp; done) ?_; intro gbz1 hg w25 hbox hb; replace HB := mk (below_step HB.out hb); have BKz0 := mk (hbox); clear hb hbox hg) | ((with_reducible refine gate_dst (N := 3) rfl ?_); refine box_event (by rfl) (N := 3) (by rfl) (cs := #[.int .i64 a1_0, .int .i64 a1_1, .int .i64 a1_2, .int .i64 a1_3]) (t := 41) (by go_simp; done) ?_; intro gbz0 hg w26 hbox hb; replace BKz0 := mk (blk_below BKz0.out hb); replace HB := mk (below_step HB.out hb); have BKz1 := mk (hbox); clear hb hbox hg; obtain ⟨hcz28_0, hcz28_1, hcz28_2, -⟩ := c4 BKz1.out; obtain ⟨hcz29_0, hcz29_1, -⟩ := c4 BKz0.out))
     go_ret
     exact ⟨by rfl, by exact HB.out⟩
    rw [if_neg c6] at H
    have c6b0 : decide (a1_1 < a0_1) = false := decide_eq_false c6
    clear c6
    obtain rfl := Option.some.inj H
    go_enter Try.func59, Try.ntmps59
    go_wp2_with (first | ((with_reducible refine gate_dst (N := 2) rfl ?_); refine box_event (by rfl) (N := 2) (by rfl) (cs := #[.int .i64 a0_0, .int .i64 a0_1, .int .i64 a0_2, .slice A0_3 l0_3.length c0_3]) (t := 28) (by go_simp; done) ?_; intro gbz1 hg w30 hbox hb; replace HB := mk (below_step HB.out hb); have BKz0 := mk (hbox); clear hb hbox hg) | ((with_reducible refine gate_dst (N := 3) rfl ?_); refine box_event (by rfl) (N := 3) (by rfl) (cs := #[.int .i64 a1_0, .int .i64 a1_1, .int .i64 a1_2, .int .i64 a1_3]) (t := 41) (by go_simp; done) ?_; intro gbz0 hg w31 hbox hb; replace BKz0 := mk (blk_below BKz0.out hb); replace HB := mk (below_step HB.out hb); have BKz1 := mk (hbox); clear hb hbox hg; obtain ⟨hcz33_0, hcz33_1, -⟩ := c4 BKz1.out; obtain ⟨hcz34_0, hcz34_1, -⟩ := c4 BKz0.out))
    go_ret
    exact ⟨by rfl, by exact HB.out⟩
   rw [if_neg c5] at H
   have c5b0 : decide (0 ≤ a1_1) = false := decide_eq_false c5
   clear c5
   obtain rfl := Option.some.inj H
   go_enter Try.func59, Try.ntmps59
   go_wp2_with (first | ((with_reducible refine gate_dst (N := 2) rfl ?_); refine box_event (by rfl) (N := 2) (by rfl) (cs := #[.int .i64 a0_0, .int .i64 a0_1, .int .i64 a0_2, .slice A0_3 l0_3.length c0_3]) (t := 28) (by go_simp; done) ?_; intro gbz1 hg w35 hbox hb; replace HB := mk (below_step HB.out hb); have BKz0 := mk (hbox); clear hb hbox hg) | ((with_reducible refine gate_dst (N := 3) rfl ?_); refine box_event (by rfl) (N := 3) (by rfl) (cs := #[.int .i64 a1_0, .int .i64 a1_1, .int .i64 a1_2, .int .i64 a1_3]) (t := 41) (by go_simp; done) ?_; intro gbz0 hg w36 hbox hb; replace BKz0 := mk (blk_below BKz0.out hb); replace HB := mk (below_step HB.out hb); have BKz1 := mk (hbox); clear hb hbox hg; obtain ⟨hcz38_0, hcz38_1, -⟩ := c4 BKz1.out; have hcz39_0 : w36.cell? ⟨gbz1, 0, none⟩ = some (.int .i64 a0_0) := (blk_cell BKz0.out 0).trans rfl))
   go_ret
   exact ⟨by rfl, by exact HB.out⟩
  rw [if_neg c4] at H
  have c4b0 : decide (a1_0 < a0_0) = false := decide_eq_false c4
  clear c4
  obtain rfl := Option.some.inj H
  go_enter Try.func59, Try.ntmps59
  go_wp2_with (first | ((with_reducible refine gate_dst (N := 2) rfl ?_); refine box_event (by rfl) (N := 2) (by rfl) (cs := #[.int .i64 a0_0, .int .i64 a0_1, .int .i64 a0_2, .slice A0_3 l0_3.length c0_3]) (t := 28) (by go_simp; done) ?_; intro gbz1 hg w40 hbox hb; replace HB := mk (below_step HB.out hb); have BKz0 := mk (hbox); clear hb hbox hg) | ((with_reducible refine gate_dst (N := 3) rfl ?_); refine box_event (by rfl) (N := 3) (by rfl) (cs := #[.int .i64 a1_0, .int .i64 a1_1, .int .i64 a1_2, .int .i64 a1_3]) (t := 41) (by go_simp; done) ?_; intro gbz0 hg w41 hbox hb; replace BKz0 := mk (blk_below BKz0.out hb); replace HB := mk (below_step HB.out hb); have BKz1 := mk (hbox); clear hb hbox hg; have hcz43_0 : w41.cell? ⟨gbz0, 0, none⟩ = some (.int .i64 a1_0) := (blk_cell BKz1.out 0).trans rfl; have hcz44_0 : w41.cell? ⟨gbz1, 0, none⟩ = some (.int .i64 a0_0) := (blk_cell BKz0.out 0).trans rfl))
  go_ret
  exact ⟨by rfl, by exact HB.out⟩
 rw [if_neg c3] at H
 have c3b0 : decide (0 ≤ a1_0) = false := decide_eq_false c3
 clear c3
 obtain rfl := Option.some.inj H
 go_enter Try.func59, Try.ntmps59
 go_wp2_with (first | ((with_reducible refine gate_dst (N := 2) rfl ?_); refine box_event (by rfl) (N := 2) (by rfl) (cs := #[.int .i64 a0_0, .int .i64 a0_1, .int .i64 a0_2, .slice A0_3 l0_3.length c0_3]) (t := 28) (by go_simp; done) ?_; intro gbz1 hg w45 hbox hb; replace HB := mk (below_step HB.out hb); have BKz0 := mk (hbox); clear hb hbox hg) | ((with_reducible refine gate_dst (N := 3) rfl ?_); refine box_event (by rfl) (N := 3) (by rfl) (cs := #[.int .i64 a1_0, .int .i64 a1_1, .int .i64 a1_2, .int .i64 a1_3]) (t := 41) (by go_simp; done) ?_; intro gbz0 hg w46 hbox hb; have n1_ := mk (below_step HB.out hb); have n2_ := mk (hbox); clear BKz0; clear HB; have HB := n1_; have BKz1 := n2_; clear hb hbox hg; have hcz48_0 : w46.cell? ⟨gbz0, 0, none⟩ = some (.int .i64 a1_0) := (blk_cell BKz1.out 0).trans rfl))
 go_ret
 exact ⟨by rfl, by exact HB.out⟩

end Go.Proofs.Ytgccpcnakkioiaa.Q

/- impl.isBoxOn, of a box on a valid image. -/
namespace Go.Proofs.Ytgccpcnakkioiaa.Q
open Go.RowKit Go.Proofs.YtgccpcnakkioiaaW.PrintWords Go.Proofs.YtgccpcnakkioiaaW.PrintLast Go.Proofs.YtgccpcnakkioiaaW.PrintMore
attribute [local go_sem] max2_int min2_int max_two min_two max_three min_three max_four min_four
set_option linter.unusedVariables false
set_option linter.unusedSimpArgs false
open Go.Proofs.Ytgccpcnakkioiaa.Pure

def boxOn (a b x y wd hg : Int) : Bool := decide (0 ≤ x ∧ x < a ∧ 0 ≤ y ∧ y < b ∧ 1 ≤ wd ∧ wd ≤ a - x ∧ 1 ≤ hg ∧ hg ≤ b - y)
theorem boxOn_iff (a b x y wd hg : Int) : boxOn a b x y wd hg = true ↔ 0 ≤ x ∧ x < a ∧ 0 ≤ y ∧ y < b ∧ 1 ≤ wd ∧ wd ≤ a - x ∧ 1 ≤ hg ∧ hg ≤ b - y := by unfold boxOn; exact decide_eq_true_iff
theorem impl_isBoxOn_eq {a b p : Int} {d : List Int} (hv : validI a b p d = true) (x y wd hg : Int) : impl_isBoxOn.f a b p d x y wd hg = some (boxOn a b x y wd hg) := by
  have hs := ((validI_iff a b p d).1 hv).1
  unfold impl_isBoxOn.f boxOn
  by_cases c1 : x ≥ 0
  · rw [if_pos c1]
    by_cases c2 : x < a
    · rw [if_pos c2]
      by_cases c3 : y ≥ 0
      · rw [if_pos c3]
        by_cases c4 : y < b
        · rw [if_pos c4, w64 (x := a - x) (by omega) (by omega), w64 (x := b - y) (by omega) (by omega)]
          by_cases c5 : wd ≥ 1
          · rw [if_pos c5]
            by_cases c6 : wd ≤ a - x
            · rw [if_pos c6]
              by_cases c7 : hg ≥ 1
              · rw [if_pos c7]; congr 1; rw [decide_eq_decide]; omega
              · rw [if_neg c7, decide_eq_false (by omega)]
            · rw [if_neg c6, decide_eq_false (by omega)]
          · rw [if_neg c5, decide_eq_false (by omega)]
        · rw [if_neg c4, decide_eq_false (by omega)]
      · rw [if_neg c3, decide_eq_false (by omega)]
    · rw [if_neg c2, decide_eq_false (by omega)]
  · rw [if_neg c1, decide_eq_false (by omega)]
end Go.Proofs.Ytgccpcnakkioiaa.Q

/- impl.CropImage: a part of an image. -/
namespace Go.Proofs.Ytgccpcnakkioiaa.Q
open Go.RowKit Go.Proofs.YtgccpcnakkioiaaW.PrintWords Go.Proofs.YtgccpcnakkioiaaW.PrintLast Go.Proofs.YtgccpcnakkioiaaW.PrintMore
open Go.Proofs.YtgccpcnakkioiaaW.PrintWords.Aside0 (mk)
attribute [local go_sem] max2_int min2_int max_two min_two max_three min_three max_four min_four
set_option linter.unusedVariables false
set_option linter.unusedSimpArgs false
open Go.Proofs.Ytgccpcnakkioiaa.Pure

def cropPx (a p : Int) (d : List Int) (X Y : Nat) (x y : Nat) : List Int := pxAt a p d (X + x) (Y + y)
def impl_CropImage.f (a b p : Int) (d : List Int) (x y wd hg : Int) : Option (Int × Int × Int × List Int × Bool) := some (if validI a b p d = true ∧ boxOn a b x y wd hg = true then (wd, hg, p, imgD (cropPx a p d x.toNat y.toNat) wd.toNat hg.toNat, true) else (0, 0, 0, [], false))
set_option maxHeartbeats 4000000 in
set_option maxRecDepth 100000 in
theorem crop_no1 (a b p : Int) (A : Option Addr) (c : Nat) (d : List Int) (x y wd hg : Int) (w : World) (hr0_3 : Kd.C (Kd.int .i64) w A d.length d) (hc0_3 : d.length ≤ c) (hv1 : validI a b p d = false) :
  Calls Try.prog 29 #[.agg #[.int .i64 a, .int .i64 b, .int .i64 p, .slice A d.length c], .agg #[.int .i64 x, .int .i64 y, .int .i64 wd, .int .i64 hg]] w fun e w' => ∃ v3_ : Value, e = .returned (.tuple #[.agg #[.int .i64 0, .int .i64 0, .int .i64 0, v3_], .bool false]) ∧ Kd.R (Kd.int .i64) 3 w' w.heap.size (fun _ => True) v3_ [] ∧ Below w.heap.size w w' := by
 have HC := mk hc0_3
 have HR := mk hr0_3
 have HB0 := mk (Below.refl w.heap.size w)
 have E1 := mk (impl_isImage_eq a b p d)
 have HV := mk hv1
 have hu := Try.underlying28
 clear hr0_3 hc0_3
 rw [hv1] at E1
 go_enter Try.func29, Try.ntmps29
 go_wp2_with (first | ((with_reducible refine gate_dst (N := 2) rfl ?_); refine box_event (by rfl) (N := 2) (by rfl) (cs := #[.int .i64 a, .int .i64 b, .int .i64 p, .slice A d.length c]) (t := 28) (by go_simp; done) ?_; intro g1 hg_ w1 hbox hb; have HB1 := mk (below_then HB0.out HB0.out.size hb); have Kg1_1 := mk hbox; clear hbox hb hg_) | ((with_reducible refine gate_dst (N := 3) rfl ?_); refine box_event (by rfl) (N := 3) (by rfl) (cs := #[.int .i64 x, .int .i64 y, .int .i64 wd, .int .i64 hg]) (t := 41) (by go_simp; done) ?_; intro g3 hg_ w2 hbox hb; have HB2 := mk (below_then HB1.out HB1.out.size hb); have Kg1_2 := mk (blk_below Kg1_1.out hb); clear hbox hb hg_) | ((with_reducible refine gate_dst (N := 4) rfl ?_); refine box_event (by rfl) (N := 4) (by rfl) (cs := #[.int .i64 0, .int .i64 0, .int .i64 0, .slice none 0 0]) (t := 28) (by go_simp; done) ?_; intro g2 hg_ w3 hbox hb; have HB3 := mk (below_then HB2.out HB2.out.size hb); have Gg2 := mk (show w.heap.size ≤ g2 from by rw [hg_]; exact HB2.out.size); have Kg1_3 := mk (blk_below Kg1_2.out hb); have Kg2_3 := mk hbox; have fg1_0 : w3.cell? ⟨g1, 0, none⟩ = some (.int .i64 a) := (blk_cell Kg1_3.out 0).trans rfl; have fg1_1 : w3.cell? ⟨g1, 1, none⟩ = some (.int .i64 b) := (blk_cell Kg1_3.out 1).trans rfl; have fg1_2 : w3.cell? ⟨g1, 2, none⟩ = some (.int .i64 p) := (blk_cell Kg1_3.out 2).trans rfl; have fg1_3 : w3.cell? ⟨g1, 3, none⟩ = some (.slice A d.length c) := (blk_cell Kg1_3.out 3).trans rfl; clear hbox hb hg_) | (go_at_call 43; (with_reducible refine (impl_isImage.calls a b p A c d _ w3 (Kd.C_below HR.out HB3.out) HC.out E1.out).mono ?_); rintro e w4 ⟨rfl, hb_⟩; have HB4 := mk (below_then HB3.out HB3.out.size hb_); have Kg2_4 := mk (blk_below Kg2_3.out hb_); have eg2_4_0 : w4.cell? ⟨g2, 0, none⟩ = some (.int .i64 0) := (blk_cell Kg2_4.out 0).trans rfl; have eg2_4_1 : w4.cell? ⟨g2, 1, none⟩ = some (.int .i64 0) := (blk_cell Kg2_4.out 1).trans rfl; have eg2_4_2 : w4.cell? ⟨g2, 2, none⟩ = some (.int .i64 0) := (blk_cell Kg2_4.out 2).trans rfl; have eg2_4_3 : w4.cell? ⟨g2, 3, none⟩ = some (.slice none 0 0) := (blk_cell Kg2_4.out 3).trans rfl; have yg2_4_0 := blk_frozen Kg2_4.out 0; have yg2_4_1 := blk_frozen Kg2_4.out 1; have yg2_4_2 := blk_frozen Kg2_4.out 2; have yg2_4_3 := blk_frozen Kg2_4.out 3; clear hb_))
 refine bodyPost_ret (results_ct rfl _ _ g2 28 #[.int .i64 0, .int .i64 0, .int .i64 0, .slice none 0 0] (0, 0) _ rfl (by
  refine blk_put (cs := #[.int .i64 0, .int .i64 0, .int .i64 0, .slice none 0 0]) ?_ 3 _ rfl
  refine blk_put (cs := #[.int .i64 0, .int .i64 0, .int .i64 0, .slice none 0 0]) ?_ 2 _ rfl
  refine blk_put (cs := #[.int .i64 0, .int .i64 0, .int .i64 0, .slice none 0 0]) ?_ 1 _ rfl
  refine blk_put (cs := #[.int .i64 0, .int .i64 0, .int .i64 0, .slice none 0 0]) ?_ 0 _ rfl
  exact Kg2_4.out
  ) hu rfl (by kernel_rfl)) rfl ?_
 have G2 := Gg2.out
 exact ⟨_, rfl, Kd.R_nil _ _ _ _ _, below_set (below_set (below_set (below_set HB4.out (by omega)) (by omega)) (by omega)) (by omega)⟩
set_option maxHeartbeats 4000000 in
set_option maxRecDepth 100000 in
theorem crop_no2 (a b p : Int) (A : Option Addr) (c : Nat) (d : List Int) (x y wd hg : Int) (w : World) (hr0_3 : Kd.C (Kd.int .i64) w A d.length d) (hc0_3 : d.length ≤ c) (hv1 : validI a b p d = true) (hv2 : boxOn a b x y wd hg = false) :
  Calls Try.prog 29 #[.agg #[.int .i64 a, .int .i64 b, .int .i64 p, .slice A d.length c], .agg #[.int .i64 x, .int .i64 y, .int .i64 wd, .int .i64 hg]] w fun e w' => ∃ v3_ : Value, e = .returned (.tuple #[.agg #[.int .i64 0, .int .i64 0, .int .i64 0, v3_], .bool false]) ∧ Kd.R (Kd.int .i64) 3 w' w.heap.size (fun _ => True) v3_ [] ∧ Below w.heap.size w w' := by
 have HC := mk hc0_3
 have HR := mk hr0_3
 have HB0 := mk (Below.refl w.heap.size w)
 have E1 := mk (impl_isImage_eq a b p d)
 have HV := mk hv1
 have hu := Try.underlying28
 clear hr0_3 hc0_3
 rw [hv1] at E1
 have E2 := mk (impl_isBoxOn_eq hv1 x y wd hg)
 rw [hv2] at E2
 clear hv1 hv2
 go_enter Try.func29, Try.ntmps29
 go_wp2_with (first | ((with_reducible refine gate_dst (N := 2) rfl ?_); refine box_event (by rfl) (N := 2) (by rfl) (cs := #[.int .i64 a, .int .i64 b, .int .i64 p, .slice A d.length c]) (t := 28) (by go_simp; done) ?_; intro g1 hg_ w1 hbox hb; have HB1 := mk (below_then HB0.out HB0.out.size hb); have Kg1_1 := mk hbox; clear hbox hb hg_) | ((with_reducible refine gate_dst (N := 3) rfl ?_); refine box_event (by rfl) (N := 3) (by rfl) (cs := #[.int .i64 x, .int .i64 y, .int .i64 wd, .int .i64 hg]) (t := 41) (by go_simp; done) ?_; intro g3 hg_ w2 hbox hb; have HB2 := mk (below_then HB1.out HB1.out.size hb); have Kg1_2 := mk (blk_below Kg1_1.out hb); have Kg3_2 := mk hbox; clear hbox hb hg_) | ((with_reducible refine gate_dst (N := 4) rfl ?_); refine box_event (by rfl) (N := 4) (by rfl) (cs := #[.int .i64 0, .int .i64 0, .int .i64 0, .slice none 0 0]) (t := 28) (by go_simp; done) ?_; intro g2 hg_ w3 hbox hb; have HB3 := mk (below_then HB2.out HB2.out.size hb); have Gg2 := mk (show w.heap.size ≤ g2 from by rw [hg_]; exact HB2.out.size); have Kg1_3 := mk (blk_below Kg1_2.out hb); have Kg3_3 := mk (blk_below Kg3_2.out hb); have Kg2_3 := mk hbox; have fg1_0 : w3.cell? ⟨g1, 0, none⟩ = some (.int .i64 a) := (blk_cell Kg1_3.out 0).trans rfl; have fg1_1 : w3.cell? ⟨g1, 1, none⟩ = some (.int .i64 b) := (blk_cell Kg1_3.out 1).trans rfl; have fg1_2 : w3.cell? ⟨g1, 2, none⟩ = some (.int .i64 p) := (blk_cell Kg1_3.out 2).trans rfl; have fg1_3 : w3.cell? ⟨g1, 3, none⟩ = some (.slice A d.length c) := (blk_cell Kg1_3.out 3).trans rfl; clear hbox hb hg_) | (go_at_call 43; (with_reducible refine (impl_isImage.calls a b p A c d _ w3 (Kd.C_below HR.out HB3.out) HC.out E1.out).mono ?_); rintro e w4 ⟨rfl, hb_⟩; have HB4 := mk (below_then HB3.out HB3.out.size hb_); have Kg1_4 := mk (blk_below Kg1_3.out hb_); have eg1_4_0 : w4.cell? ⟨g1, 0, none⟩ = some (.int .i64 a) := (blk_cell Kg1_4.out 0).trans rfl; have eg1_4_1 : w4.cell? ⟨g1, 1, none⟩ = some (.int .i64 b) := (blk_cell Kg1_4.out 1).trans rfl; have eg1_4_2 : w4.cell? ⟨g1, 2, none⟩ = some (.int .i64 p) := (blk_cell Kg1_4.out 2).trans rfl; have eg1_4_3 : w4.cell? ⟨g1, 3, none⟩ = some (.slice A d.length c) := (blk_cell Kg1_4.out 3).trans rfl; have Kg3_4 := mk (blk_below Kg3_3.out hb_); have eg3_4_0 : w4.cell? ⟨g3, 0, none⟩ = some (.int .i64 x) := (blk_cell Kg3_4.out 0).trans rfl; have eg3_4_1 : w4.cell? ⟨g3, 1, none⟩ = some (.int .i64 y) := (blk_cell Kg3_4.out 1).trans rfl; have eg3_4_2 : w4.cell? ⟨g3, 2, none⟩ = some (.int .i64 wd) := (blk_cell Kg3_4.out 2).trans rfl; have eg3_4_3 : w4.cell? ⟨g3, 3, none⟩ = some (.int .i64 hg) := (blk_cell Kg3_4.out 3).trans rfl; have Kg2_4 := mk (blk_below Kg2_3.out hb_); clear hb_) | (go_at_call 59; (with_reducible refine (impl_isBoxOn.calls a b p A c d x y wd hg _ w4 (Kd.C_below HR.out HB4.out) HC.out E2.out).mono ?_); rintro e w5 ⟨rfl, hb_⟩; have HB5 := mk (below_then HB4.out HB4.out.size hb_); have Kg2_5 := mk (blk_below Kg2_4.out hb_); have eg2_5_0 : w5.cell? ⟨g2, 0, none⟩ = some (.int .i64 0) := (blk_cell Kg2_5.out 0).trans rfl; have eg2_5_1 : w5.cell? ⟨g2, 1, none⟩ = some (.int .i64 0) := (blk_cell Kg2_5.out 1).trans rfl; have eg2_5_2 : w5.cell? ⟨g2, 2, none⟩ = some (.int .i64 0) := (blk_cell Kg2_5.out 2).trans rfl; have eg2_5_3 : w5.cell? ⟨g2, 3, none⟩ = some (.slice none 0 0) := (blk_cell Kg2_5.out 3).trans rfl; have yg2_5_0 := blk_frozen Kg2_5.out 0; have yg2_5_1 := blk_frozen Kg2_5.out 1; have yg2_5_2 := blk_frozen Kg2_5.out 2; have yg2_5_3 := blk_frozen Kg2_5.out 3; clear hb_))
 refine bodyPost_ret (results_ct rfl _ _ g2 28 #[.int .i64 0, .int .i64 0, .int .i64 0, .slice none 0 0] (0, 0) _ rfl (by
  refine blk_put (cs := #[.int .i64 0, .int .i64 0, .int .i64 0, .slice none 0 0]) ?_ 3 _ rfl
  refine blk_put (cs := #[.int .i64 0, .int .i64 0, .int .i64 0, .slice none 0 0]) ?_ 2 _ rfl
  refine blk_put (cs := #[.int .i64 0, .int .i64 0, .int .i64 0, .slice none 0 0]) ?_ 1 _ rfl
  refine blk_put (cs := #[.int .i64 0, .int .i64 0, .int .i64 0, .slice none 0 0]) ?_ 0 _ rfl
  exact Kg2_5.out
  ) hu rfl (by kernel_rfl)) rfl ?_
 have G2 := Gg2.out
 exact ⟨_, rfl, Kd.R_nil _ _ _ _ _, below_set (below_set (below_set (below_set HB5.out (by omega)) (by omega)) (by omega)) (by omega)⟩
set_option maxHeartbeats 4000000 in
set_option maxRecDepth 100000 in
theorem crop_yes (a b p : Int) (A : Option Addr) (c : Nat) (d : List Int) (x y wd hg : Nat) (w : World) (hr0_3 : Kd.C (Kd.int .i64) w A d.length d) (hc0_3 : d.length ≤ c) (hv1 : validI a b p d = true) (hv2 : boxOn a b x y wd hg = true) :
  Calls Try.prog 29 #[.agg #[.int .i64 a, .int .i64 b, .int .i64 p, .slice A d.length c], .agg #[.int .i64 (x : Int), .int .i64 (y : Int), .int .i64 (wd : Int), .int .i64 (hg : Int)]] w fun e w' => ∃ v3_ : Value, e = .returned (.tuple #[.agg #[.int .i64 (wd : Int), .int .i64 (hg : Int), .int .i64 p, v3_], .bool true]) ∧ Kd.R (Kd.int .i64) 3 w' w.heap.size (fun _ => True) v3_ (imgD (cropPx a p d x y) wd hg) ∧ Below w.heap.size w w' := by
 have HC := mk hc0_3
 have HR := mk hr0_3
 have HB0 := mk (Below.refl w.heap.size w)
 have E1 := mk (impl_isImage_eq a b p d)
 have HV := mk hv1
 have hu := Try.underlying28
 clear hr0_3 hc0_3
 rw [hv1] at E1
 have E2 := mk (impl_isBoxOn_eq hv1 x y wd hg)
 rw [hv2] at E2
 have hs := ((validI_iff a b p d).1 hv1).1
 have hbx := (boxOn_iff a b x y wd hg).1 hv2
 have HPL := mk (show ∀ x' y', x' < wd → y' < hg → (cropPx a p d x y x' y').length ≤ 4 from fun x' y' hx hy => pxAt_le hv1 (by omega) (by omega))
 clear hv1 hv2
 go_enter Try.func29, Try.ntmps29
 go_wp2_with (first | ((with_reducible refine gate_dst (N := 2) rfl ?_); refine box_event (by rfl) (N := 2) (by rfl) (cs := #[.int .i64 a, .int .i64 b, .int .i64 p, .slice A d.length c]) (t := 28) (by go_simp; done) ?_; intro g1 hg_ w1 hbox hb; have HB1 := mk (below_then HB0.out HB0.out.size hb); have Kg1_1 := mk hbox; clear hbox hb hg_) | ((with_reducible refine gate_dst (N := 3) rfl ?_); refine box_event (by rfl) (N := 3) (by rfl) (cs := #[.int .i64 (x : Int), .int .i64 (y : Int), .int .i64 (wd : Int), .int .i64 (hg : Int)]) (t := 41) (by go_simp; done) ?_; intro g3 hg_ w2 hbox hb; have HB2 := mk (below_then HB1.out HB1.out.size hb); have Kg1_2 := mk (blk_below Kg1_1.out hb); have Kg3_2 := mk hbox; clear hbox hb hg_) | ((with_reducible refine gate_dst (N := 4) rfl ?_); refine box_event (by rfl) (N := 4) (by rfl) (cs := #[.int .i64 0, .int .i64 0, .int .i64 0, .slice none 0 0]) (t := 28) (by go_simp; done) ?_; intro g2 hg_ w3 hbox hb; have HB3 := mk (below_then HB2.out HB2.out.size hb); have Gg2 := mk (show w.heap.size ≤ g2 from by rw [hg_]; exact HB2.out.size); have Kg1_3 := mk (blk_below Kg1_2.out hb); have Kg3_3 := mk (blk_below Kg3_2.out hb); have Kg2_3 := mk hbox; have fg1_0 : w3.cell? ⟨g1, 0, none⟩ = some (.int .i64 a) := (blk_cell Kg1_3.out 0).trans rfl; have fg1_1 : w3.cell? ⟨g1, 1, none⟩ = some (.int .i64 b) := (blk_cell Kg1_3.out 1).trans rfl; have fg1_2 : w3.cell? ⟨g1, 2, none⟩ = some (.int .i64 p) := (blk_cell Kg1_3.out 2).trans rfl; have fg1_3 : w3.cell? ⟨g1, 3, none⟩ = some (.slice A d.length c) := (blk_cell Kg1_3.out 3).trans rfl; clear hbox hb hg_) | (go_at_call 43; (with_reducible refine (impl_isImage.calls a b p A c d _ w3 (Kd.C_below HR.out HB3.out) HC.out E1.out).mono ?_); rintro e w4 ⟨rfl, hb_⟩; have HB4 := mk (below_then HB3.out HB3.out.size hb_); have Kg1_4 := mk (blk_below Kg1_3.out hb_); have eg1_4_0 : w4.cell? ⟨g1, 0, none⟩ = some (.int .i64 a) := (blk_cell Kg1_4.out 0).trans rfl; have eg1_4_1 : w4.cell? ⟨g1, 1, none⟩ = some (.int .i64 b) := (blk_cell Kg1_4.out 1).trans rfl; have eg1_4_2 : w4.cell? ⟨g1, 2, none⟩ = some (.int .i64 p) := (blk_cell Kg1_4.out 2).trans rfl; have eg1_4_3 : w4.cell? ⟨g1, 3, none⟩ = some (.slice A d.length c) := (blk_cell Kg1_4.out 3).trans rfl; have Kg3_4 := mk (blk_below Kg3_3.out hb_); have eg3_4_0 : w4.cell? ⟨g3, 0, none⟩ = some (.int .i64 (x : Int)) := (blk_cell Kg3_4.out 0).trans rfl; have eg3_4_1 : w4.cell? ⟨g3, 1, none⟩ = some (.int .i64 (y : Int)) := (blk_cell Kg3_4.out 1).trans rfl; have eg3_4_2 : w4.cell? ⟨g3, 2, none⟩ = some (.int .i64 (wd : Int)) := (blk_cell Kg3_4.out 2).trans rfl; have eg3_4_3 : w4.cell? ⟨g3, 3, none⟩ = some (.int .i64 (hg : Int)) := (blk_cell Kg3_4.out 3).trans rfl; have Kg2_4 := mk (blk_below Kg2_3.out hb_); clear hb_) | (go_at_call 59; (with_reducible refine (impl_isBoxOn.calls a b p A c d x y wd hg _ w4 (Kd.C_below HR.out HB4.out) HC.out E2.out).mono ?_); rintro e w5 ⟨rfl, hb_⟩; have HB5 := mk (below_then HB4.out HB4.out.size hb_); have Kg1_5 := mk (blk_below Kg1_4.out hb_); have eg1_5_2 : w5.cell? ⟨g1, 2, none⟩ = some (.int .i64 p) := (blk_cell Kg1_5.out 2).trans rfl; have Kg3_5 := mk (blk_below Kg3_4.out hb_); have eg3_5_2 : w5.cell? ⟨g3, 2, none⟩ = some (.int .i64 (wd : Int)) := (blk_cell Kg3_5.out 2).trans rfl; have eg3_5_3 : w5.cell? ⟨g3, 3, none⟩ = some (.int .i64 (hg : Int)) := (blk_cell Kg3_5.out 3).trans rfl; have Kg2_5 := mk (blk_below Kg2_4.out hb_); clear hb_) | (go_at_call 53; refine (imageBy_calls 60 #[.pointer (some ⟨g1, 0, none⟩), .pointer (some ⟨g3, 0, none⟩)] (cropPx a p d x y) wd hg p (by omega) (by omega) w5 (enters_of Try.func60 (by kernel_rfl) rfl) HPL.out (fun W x' y' hx hy hW => crop1_calls a b p A c d HV.out HC.out x y wd hg x' y' (by omega) (by omega) g1 W (blk_below Kg1_5.out hW) g3 (blk_below Kg3_5.out hW) (Kd.C_below (Kd.C_below HR.out HB5.out) hW))).mono ?_; rintro e w6 ⟨v6, rfl, hr6, hb_⟩; have HB6 := mk (below_then HB5.out HB5.out.size hb_); have Kg2_6 := mk (blk_below Kg2_5.out hb_); have eg2_6_0 : w6.cell? ⟨g2, 0, none⟩ = some (.int .i64 0) := (blk_cell Kg2_6.out 0).trans rfl; have eg2_6_1 : w6.cell? ⟨g2, 1, none⟩ = some (.int .i64 0) := (blk_cell Kg2_6.out 1).trans rfl; have eg2_6_2 : w6.cell? ⟨g2, 2, none⟩ = some (.int .i64 0) := (blk_cell Kg2_6.out 2).trans rfl; have eg2_6_3 : w6.cell? ⟨g2, 3, none⟩ = some (.slice none 0 0) := (blk_cell Kg2_6.out 3).trans rfl; have yg2_6_0 := blk_frozen Kg2_6.out 0; have yg2_6_1 := blk_frozen Kg2_6.out 1; have yg2_6_2 := blk_frozen Kg2_6.out 2; have yg2_6_3 := blk_frozen Kg2_6.out 3; have HR6 := mk (Kd.R_lower hr6 HB5.out.size); obtain ⟨A6, c6, ev6⟩ := Kd.R_slice HR6.out; subst ev6; clear hr6 hb_))
 have G2 := Gg2.out
 have RR := Kd.R_types HR6.out Kg2_6.out (by decide)
 refine bodyPost_ret (results_ct rfl _ _ g2 28 #[.int .i64 (wd : Int), .int .i64 (hg : Int), .int .i64 p, .slice A6 (imgD (cropPx a p d x y) wd hg).length c6] (0, 0) _ rfl (by
  refine blk_put (cs := #[.int .i64 (wd : Int), .int .i64 (hg : Int), .int .i64 p, .slice none 0 0]) ?_ 3 _ rfl
  refine blk_put (cs := #[.int .i64 (wd : Int), .int .i64 (hg : Int), .int .i64 0, .slice none 0 0]) ?_ 2 _ rfl
  refine blk_put (cs := #[.int .i64 (wd : Int), .int .i64 0, .int .i64 0, .slice none 0 0]) ?_ 1 _ rfl
  refine blk_put (cs := #[.int .i64 0, .int .i64 0, .int .i64 0, .slice none 0 0]) ?_ 0 _ rfl
  exact Kg2_6.out
  ) hu rfl (by kernel_rfl)) rfl ?_
 exact ⟨_, rfl, Kd.R_mono (Kd.R_far (Kd.R_far (Kd.R_far (Kd.R_far RR (fun k hk => hk.2) _) (fun k hk => hk.2) _) (fun k hk => hk.2) _) (fun k hk => hk.2) _) (fun _ _ => trivial), below_set (below_set (below_set (below_set HB6.out (by omega)) (by omega)) (by omega)) (by omega)⟩
theorem impl_CropImage.calls (a b p : Int) (A : Option Addr) (c : Nat) (d : List Int) (x y wd hg : Int) (r1 r2 r3 : Int) (r4 : List Int) (r5 : Bool) (w : World) (hr0_3 : Kd.C (Kd.int .i64) w A d.length d) (hc0_3 : d.length ≤ c) (h : impl_CropImage.f a b p d x y wd hg = some (r1, r2, r3, r4, r5)) :
  Calls Try.prog 29 #[.agg #[.int .i64 a, .int .i64 b, .int .i64 p, .slice A d.length c], .agg #[.int .i64 x, .int .i64 y, .int .i64 wd, .int .i64 hg]] w fun e w' => ∃ v3_ : Value, e = .returned (.tuple #[.agg #[.int .i64 r1, .int .i64 r2, .int .i64 r3, v3_], .bool r5]) ∧ Kd.R (Kd.int .i64) 3 w' w.heap.size (fun _ => True) v3_ r4 ∧ Below w.heap.size w w' := by
 have hv := Option.some.inj h
 cases hv1 : validI a b p d with
 | false =>
  rw [hv1, if_neg (by simp)] at hv
  obtain ⟨rfl, rfl, rfl, rfl, rfl⟩ : 0 = r1 ∧ 0 = r2 ∧ 0 = r3 ∧ [] = r4 ∧ false = r5 := by simpa using hv
  exact crop_no1 a b p A c d x y wd hg w hr0_3 hc0_3 hv1
 | true =>
  cases hv2 : boxOn a b x y wd hg with
  | false =>
   rw [hv1, hv2, if_neg (by simp)] at hv
   obtain ⟨rfl, rfl, rfl, rfl, rfl⟩ : 0 = r1 ∧ 0 = r2 ∧ 0 = r3 ∧ [] = r4 ∧ false = r5 := by simpa using hv
   exact crop_no2 a b p A c d x y wd hg w hr0_3 hc0_3 hv1 hv2
  | true =>
   have hbx := (boxOn_iff a b x y wd hg).1 hv2
   rw [hv1, hv2, if_pos ⟨rfl, rfl⟩] at hv
   obtain ⟨xn, rfl⟩ := Int.eq_ofNat_of_zero_le (show 0 ≤ x by omega)
   obtain ⟨yn, rfl⟩ := Int.eq_ofNat_of_zero_le (show 0 ≤ y by omega)
   obtain ⟨wn, rfl⟩ := Int.eq_ofNat_of_zero_le (show 0 ≤ wd by omega)
   obtain ⟨hn, rfl⟩ := Int.eq_ofNat_of_zero_le (show 0 ≤ hg by omega)
   obtain ⟨rfl, rfl, rfl, rfl, rfl⟩ : (wn : Int) = r1 ∧ (hn : Int) = r2 ∧ p = r3 ∧ imgD (cropPx a p d xn yn) wn hn = r4 ∧ true = r5 := by simpa using hv
   exact crop_yes a b p A c d xn yn wn hn w hr0_3 hc0_3 hv1 hv2
end Go.Proofs.Ytgccpcnakkioiaa.Q

namespace Go.Proofs.Ytgccpcnakkioiaa.Q
open Go.RowKit Go.Proofs.YtgccpcnakkioiaaW.PrintWords Go.Proofs.YtgccpcnakkioiaaW.PrintLast Go.Proofs.YtgccpcnakkioiaaW.PrintMore
attribute [local go_sem] max2_int min2_int max_two min_two max_three min_three max_four min_four
set_option linter.unusedVariables false
set_option linter.unusedSimpArgs false
def impl_Box_has.f (a0_0 : Int) (a0_1 : Int) (a0_2 : Int) (a0_3 : Int) (a1 : Int) (a2 : Int) : Option (Bool) := if a1 ≥ a0_0 then (if a1 < (wrap64 (a0_0 + a0_2)) then (if a2 ≥ a0_1 then (some (decide (a2 < (wrap64 (a0_1 + a0_3))))) else (some false)) else (some false)) else (some false)
set_option maxHeartbeats 8000000 in
set_option maxRecDepth 100000 in
theorem impl_Box_has.calls (a0_0 : Int) (a0_1 : Int) (a0_2 : Int) (a0_3 : Int) (a1 : Int) (a2 : Int) (r : Bool) (w : World) (h : impl_Box_has.f a0_0 a0_1 a0_2 a0_3 a1 a2 = some r) :
  Calls Try.prog 81 #[.agg #[.int .i64 a0_0, .int .i64 a0_1, .int .i64 a0_2, .int .i64 a0_3], .int .i64 a1, .int .i64 a2] w fun e w' => e = .returned (.bool r) ∧ Below w.heap.size w w' := by
 have hu41 := Try.underlying41
 have HB := Aside0.mk (Below.refl w.heap.size w)
 have H : (if a1 ≥ a0_0 then (if a1 < (wrap64 (a0_0 + a0_2)) then (if a2 ≥ a0_1 then (some (decide (a2 < (wrap64 (a0_1 + a0_3))))) else (some false)) else (some false)) else (some false)) = some r := h
 clear h
 by_cases c4 : a1 ≥ a0_0
 ·rw [if_pos c4] at H
  have c4b0 : decide (a0_0 ≤ a1) = true := decide_eq_true c4
  clear c4
  by_cases c5 : a1 < (wrap64 (a0_0 + a0_2))
  ·rw [if_pos c5] at H
   have c5b0 : decide (a1 < (wrap64 (a0_0 + a0_2))) = true := decide_eq_true c5
   clear c5
   by_cases c6 : a2 ≥ a0_1
   ·rw [if_pos c6] at H
    have c6b0 : decide (a0_1 ≤ a2) = true := decide_eq_true c6
    clear c6
    obtain rfl := Option.some.inj H
    go_enter Try.func81, Try.ntmps81
    go_wp2_with (first | ((with_reducible refine gate_dst (N := 3) rfl ?_); refine box_event ?hg (N := 3) ?hd (cs := #[.int .i64 a0_0, .int .i64 a0_1, .int .i64 a0_2, .int .i64 a0_3]) (t := 41) ?hr ?_; (case hd => rfl); (case hg => rfl); (case hr => first | (go_simp; done) | (go_simp; rfl)); intro gbz0 hg w7 hbox hb; replace HB := Aside0.mk (below_step (by repeat (first | (with_reducible first | exact HB.out | apply below_alloc | apply pw_below_drewN | apply below_drew1) | exact HB.out)) hb); have BKz0 := Aside0.mk (hbox); clear hb hbox hg; obtain ⟨hcz8_0, hcz8_1, hcz8_2, hcz8_3, -⟩ := c4 BKz0.out))
    go_ret
    exact ⟨by first | rfl | (simp [errW_none, errW_some] <;> rfl) | (simp [*, errW_none, errW_some] <;> rfl), by repeat (first | (with_reducible first | exact HB.out | apply below_alloc | apply pw_below_drewN | apply below_drew1 | refine below_set ?_ GEz0.out) | exact HB.out)⟩
   rw [if_neg c6] at H
   have c6b0 : decide (a0_1 ≤ a2) = false := decide_eq_false c6
   clear c6
   obtain rfl := Option.some.inj H
   go_enter Try.func81, Try.ntmps81
   go_wp2_with (first | ((with_reducible refine gate_dst (N := 3) rfl ?_); refine box_event ?hg (N := 3) ?hd (cs := #[.int .i64 a0_0, .int .i64 a0_1, .int .i64 a0_2, .int .i64 a0_3]) (t := 41) ?hr ?_; (case hd => rfl); (case hg => rfl); (case hr => first | (go_simp; done) | (go_simp; rfl)); intro gbz0 hg w9 hbox hb; replace HB := Aside0.mk (below_step (by repeat (first | (with_reducible first | exact HB.out | apply below_alloc | apply pw_below_drewN | apply below_drew1) | exact HB.out)) hb); have BKz0 := Aside0.mk (hbox); clear hb hbox hg; obtain ⟨hcz10_0, hcz10_1, hcz10_2, -⟩ := c4 BKz0.out))
   go_ret
   exact ⟨by first | rfl | (simp [errW_none, errW_some] <;> rfl) | (simp [*, errW_none, errW_some] <;> rfl), by repeat (first | (with_reducible first | exact HB.out | apply below_alloc | apply pw_below_drewN | apply below_drew1 | refine below_set ?_ GEz0.out) | exact HB.out)⟩
  rw [if_neg c5] at H
  have c5b0 : decide (a1 < (wrap64 (a0_0 + a0_2))) = false := decide_eq_false c5
  clear c5
  obtain rfl := Option.some.inj H
  go_enter Try.func81, Try.ntmps81
  go_wp2_with (first | ((with_reducible refine gate_dst (N := 3) rfl ?_); refine box_event ?hg (N := 3) ?hd (cs := #[.int .i64 a0_0, .int .i64 a0_1, .int .i64 a0_2, .int .i64 a0_3]) (t := 41) ?hr ?_; (case hd => rfl); (case hg => rfl); (case hr => first | (go_simp; done) | (go_simp; rfl)); intro gbz0 hg w11 hbox hb; replace HB := Aside0.mk (below_step (by repeat (first | (with_reducible first | exact HB.out | apply below_alloc | apply pw_below_drewN | apply below_drew1) | exact HB.out)) hb); have BKz0 := Aside0.mk (hbox); clear hb hbox hg; obtain ⟨hcz12_0, -, hcz12_2, -⟩ := c4 BKz0.out))
  go_ret
  exact ⟨by first | rfl | (simp [errW_none, errW_some] <;> rfl) | (simp [*, errW_none, errW_some] <;> rfl), by repeat (first | (with_reducible first | exact HB.out | apply below_alloc | apply pw_below_drewN | apply below_drew1 | refine below_set ?_ GEz0.out) | exact HB.out)⟩
 rw [if_neg c4] at H
 have c4b0 : decide (a0_0 ≤ a1) = false := decide_eq_false c4
 clear c4
 obtain rfl := Option.some.inj H
 go_enter Try.func81, Try.ntmps81
 go_wp2_with (first | ((with_reducible refine gate_dst (N := 3) rfl ?_); refine box_event ?hg (N := 3) ?hd (cs := #[.int .i64 a0_0, .int .i64 a0_1, .int .i64 a0_2, .int .i64 a0_3]) (t := 41) ?hr ?_; (case hd => rfl); (case hg => rfl); (case hr => first | (go_simp; done) | (go_simp; rfl)); intro gbz0 hg w13 hbox hb; replace HB := Aside0.mk (below_step (by repeat (first | (with_reducible first | exact HB.out | apply below_alloc | apply pw_below_drewN | apply below_drew1) | exact HB.out)) hb); have BKz0 := Aside0.mk (hbox); clear hb hbox hg; have hcz14_0 : w13.cell? ⟨gbz0, 0, none⟩ = some (.int .i64 a0_0) := (blk_cell BKz0.out 0).trans rfl))
 go_ret
 exact ⟨by first | rfl | (simp [errW_none, errW_some] <;> rfl) | (simp [*, errW_none, errW_some] <;> rfl), by repeat (first | (with_reducible first | exact HB.out | apply below_alloc | apply pw_below_drewN | apply below_drew1 | refine below_set ?_ GEz0.out) | exact HB.out)⟩

end Go.Proofs.Ytgccpcnakkioiaa.Q

/- impl.doStep's function value: a box's pixels are one pixel's numbers. -/
namespace Go.Proofs.Ytgccpcnakkioiaa.Q
open Go.RowKit Go.Proofs.YtgccpcnakkioiaaW.PrintWords Go.Proofs.YtgccpcnakkioiaaW.PrintLast Go.Proofs.YtgccpcnakkioiaaW.PrintMore
attribute [local go_sem] max2_int min2_int max_two min_two max_three min_three max_four min_four
set_option linter.unusedVariables false
set_option linter.unusedSimpArgs false
open Go.Proofs.Ytgccpcnakkioiaa.Pure

def inBox (x y wd hg : Nat) (i j : Nat) : Bool := decide (x ≤ i ∧ i < x + wd ∧ y ≤ j ∧ j < y + hg)
theorem impl_Box_has_nat (x y wd hg i j : Nat) (h1 : x ≤ 1000) (h2 : y ≤ 1000) (h3 : wd ≤ 1000) (h4 : hg ≤ 1000) : impl_Box_has.f (x : Int) (y : Int) (wd : Int) (hg : Int) (i : Int) (j : Int) = some (inBox x y wd hg i j) := by
 unfold impl_Box_has.f inBox
 rw [w64 (x := (x : Int) + wd) (by omega) (by omega), w64 (x := (y : Int) + hg) (by omega) (by omega)]
 by_cases c1 : (i : Int) ≥ x
 ·rw [if_pos c1]
  by_cases c2 : (i : Int) < (x : Int) + wd
  ·rw [if_pos c2]
   by_cases c3 : (j : Int) ≥ y
   ·rw [if_pos c3]; congr 1; rw [decide_eq_decide]; omega
   ·rw [if_neg c3, decide_eq_false (by omega)]
  ·rw [if_neg c2, decide_eq_false (by omega)]
 ·rw [if_neg c1, decide_eq_false (by omega)]
def fillPx (a p : Int) (d : List Int) (x y wd hg : Nat) (pix : List Int) (i j : Nat) : List Int := if inBox x y wd hg i j = true then pix else pxAt a p d i j
set_option maxHeartbeats 1600000 in
set_option maxRecDepth 100000 in
theorem fill1_calls (a b p : Int) (A : Option Addr) (c : Nat) (d : List Int) (hv : validI a b p d = true) (hc : d.length ≤ c) (kind : Int) (x y wd hg : Nat) (hx4 : x ≤ 16) (hy4 : y ≤ 16) (hw4 : wd ≤ 16) (hh4 : hg ≤ 16) (A3 : Option Addr) (c3 : Nat) (pix : List Int) (hc3 : pix.length ≤ c3) (i j : Nat) (hi : (i : Int) < a) (hj : (j : Int) < b) (B2 : Nat) (w : World) (h2 : w.heap[B2]? = some (.cells #[.int .i64 kind, .int .i64 (x : Int), .int .i64 (y : Int), .int .i64 (wd : Int), .int .i64 (hg : Int), .slice A3 pix.length c3] 43 (0, 0))) (B : Nat) (h1 : w.heap[B]? = some (.cells #[.int .i64 a, .int .i64 b, .int .i64 p, .slice A d.length c] 28 (0, 0))) (hr : Kd.C (Kd.int .i64) w A d.length d) (hr3 : Kd.C (Kd.int .i64) w A3 pix.length pix) :
  Calls Try.prog 80 (#[.int .i64 (i : Int), .int .i64 (j : Int)] ++ #[.pointer (some ⟨B2, 0, none⟩), .pointer (some ⟨B, 0, none⟩)]) w fun e w' => ∃ (A' : Option Addr) (c' : Nat), e = .returned (.slice A' (fillPx a p d x y wd hg pix i j).length c') ∧ Kd.C (Kd.int .i64) w' A' (fillPx a p d x y wd hg pix i j).length (fillPx a p d x y wd hg pix i j) ∧ (fillPx a p d x y wd hg pix i j).length ≤ c' ∧ Below w.heap.size w w' := by
 have H1 := Aside0.mk h1
 have H2 := Aside0.mk h2
 have HR3 := Aside0.mk hr3
 have HH := Aside0.mk (impl_Box_has_nat x y wd hg i j (by omega) (by omega) (by omega) (by omega))
 have q1 := (blk_cell h2 1).trans rfl; have q2 := (blk_cell h2 2).trans rfl; have q3 := (blk_cell h2 3).trans rfl; have q4 := (blk_cell h2 4).trans rfl
 obtain ⟨A', c', hc', HA⟩ := at_px (x := i) (y := j) A c hv hc hi hj
 have HR := Aside0.mk hr
 unfold fillPx
 cases hin : inBox x y wd hg i j with
 | true =>
  rw [hin] at HH
  simp only [if_true]
  clear HA hr hr3 h1 h2 hv hc hin
  simp only [List.append_toArray, List.cons_append, List.nil_append]
  go_enter Try.func80, Try.ntmps80
  go_wp2_with (first | (go_at_call 81; (with_reducible refine (impl_Box_has.calls (x : Int) (y : Int) (wd : Int) (hg : Int) (i : Int) (j : Int) _ _ HH.out).mono ?_); rintro e w2 ⟨rfl, hb⟩; have k5 := (blk_cell (blk_below H2.out hb) 5).trans rfl))
  go_ret
  exact ⟨A3, c3, rfl, Kd.C_below HR3.out hb, hc3, hb⟩
 | false =>
  rw [hin] at HH
  simp only [Bool.false_eq_true, if_false]
  generalize pxAt a p d i j = px at *
  replace HA := Aside0.mk HA
  clear hr hr3 h1 h2 hv hc hin
  simp only [List.append_toArray, List.cons_append, List.nil_append]
  go_enter Try.func80, Try.ntmps80
  go_wp2_with (first
   | (go_at_call 81; (with_reducible refine (impl_Box_has.calls (x : Int) (y : Int) (wd : Int) (hg : Int) (i : Int) (j : Int) _ _ HH.out).mono ?_); rintro e w2 ⟨rfl, hb⟩; have H12 := blk_below H1.out hb; have HRw := Aside0.mk (Kd.C_below HR.out hb); have k0 := (blk_cell H12 0).trans rfl; have k1 := (blk_cell H12 1).trans rfl; have k2 := (blk_cell H12 2).trans rfl; have k3 := (blk_cell H12 3).trans rfl; have hb2 := Aside0.mk hb; clear hb H12)
   | (go_at_call 55; (with_reducible refine ((HA.out _ HRw.out).2).mono ?_); rintro e w3 ⟨rfl, hb3⟩))
  go_ret
  exact ⟨A', c', rfl, Kd.C_below (HA.out _ HRw.out).1 hb3, hc', below_then hb2.out hb2.out.size hb3⟩
end Go.Proofs.Ytgccpcnakkioiaa.Q

/- impl.doStep: the image that a step makes of a valid image. -/
namespace Go.Proofs.Ytgccpcnakkioiaa.Q
open Go.RowKit Go.Proofs.YtgccpcnakkioiaaW.PrintWords Go.Proofs.YtgccpcnakkioiaaW.PrintLast Go.Proofs.YtgccpcnakkioiaaW.PrintMore
open Go.Proofs.YtgccpcnakkioiaaW.PrintWords.Aside0 (mk)
attribute [local go_sem] max2_int min2_int max_two min_two max_three min_three max_four min_four
set_option linter.unusedVariables false
set_option linter.unusedSimpArgs false
open Go.Proofs.Ytgccpcnakkioiaa.Pure

def doStepV (a b p : Int) (d : List Int) (kind x y wd hg : Int) (pix : List Int) : Int × Int × Int × List Int × Bool :=
 if kind = 0 then (a, b, p, imgD (mirPx a p d) a.toNat b.toNat, true)
 else if kind = 1 then (b, a, p, imgD (turnPx a b p d) b.toNat a.toNat, true)
 else if kind = 2 then (a, b, p, invD d, true)
 else if kind = 3 then (if boxOn a b x y wd hg = true then (wd, hg, p, imgD (cropPx a p d x.toNat y.toNat) wd.toNat hg.toNat, true) else (0, 0, 0, [], false))
 else if kind = 4 then (if boxOn a b x y wd hg = true ∧ (pix.length : Int) = p ∧ pix.all byteI = true then (a, b, p, imgD (fillPx a p d x.toNat y.toNat wd.toNat hg.toNat pix) a.toNat b.toNat, true) else (0, 0, 0, [], false))
 else (0, 0, 0, [], false)
def impl_doStep.f (a b p : Int) (d : List Int) (kind x y wd hg : Int) (pix : List Int) : Option (Int × Int × Int × List Int × Bool) := if validI a b p d = true then some (doStepV a b p d kind x y wd hg pix) else none
set_option maxHeartbeats 4000000 in
set_option maxRecDepth 100000 in
theorem step0 (a b p : Int) (A : Option Addr) (c : Nat) (d : List Int) (x y wd hg : Int) (A3 : Option Addr) (c3 : Nat) (pix : List Int) (w : World) (hr0_3 : Kd.C (Kd.int .i64) w A d.length d) (hc0_3 : d.length ≤ c) (hr3 : Kd.C (Kd.int .i64) w A3 pix.length pix) (hc3 : pix.length ≤ c3) (hv1 : validI a b p d = true) :
  Calls Try.prog 45 #[.agg #[.int .i64 a, .int .i64 b, .int .i64 p, .slice A d.length c], .agg #[.int .i64 0, .int .i64 x, .int .i64 y, .int .i64 wd, .int .i64 hg, .slice A3 pix.length c3]] w fun e w' => ∃ v3_ : Value, e = .returned (.tuple #[.agg #[.int .i64 a, .int .i64 b, .int .i64 p, v3_], .bool true]) ∧ Kd.R (Kd.int .i64) 3 w' w.heap.size (fun _ => True) v3_ (imgD (mirPx a p d) a.toNat b.toNat) ∧ Below w.heap.size w w' := by
 have HC := mk hc0_3
 have HR := mk hr0_3
 have HB0 := mk (Below.refl w.heap.size w)
 have hu := Try.underlying28
 clear hr0_3 hc0_3 hr3 hc3
 have E1 := mk (show impl_MirrorImage.f a b p d = some (a, b, p, imgD (mirPx a p d) a.toNat b.toNat) from by unfold impl_MirrorImage.f; rw [hv1, if_pos rfl])
 clear hv1
 go_enter Try.func45, Try.ntmps45
 go_wp2_with (first | ((with_reducible refine gate_dst (N := 2) rfl ?_); refine box_event (by rfl) (N := 2) (by rfl) (cs := #[.int .i64 a, .int .i64 b, .int .i64 p, .slice A d.length c]) (t := 28) (by go_simp; done) ?_; intro g1 hg_ w1 hbox hb; have HB1 := mk (below_then HB0.out HB0.out.size hb); have Kg1_1 := mk hbox; clear hbox hb hg_) | ((with_reducible refine gate_dst (N := 3) rfl ?_); refine box_event (by rfl) (N := 3) (by rfl) (cs := #[.int .i64 0, .int .i64 x, .int .i64 y, .int .i64 wd, .int .i64 hg, .slice A3 pix.length c3]) (t := 43) (by go_simp; done) ?_; intro g3 hg_ w2 hbox hb; have HB2 := mk (below_then HB1.out HB1.out.size hb); have Kg1_2 := mk (blk_below Kg1_1.out hb); have Kg3_2 := mk hbox; clear hbox hb hg_) | ((with_reducible refine gate_dst (N := 4) rfl ?_); refine box_event (by rfl) (N := 4) (by rfl) (cs := #[.int .i64 0, .int .i64 0, .int .i64 0, .slice none 0 0]) (t := 28) (by go_simp; done) ?_; intro g2 hg_ w3 hbox hb; have HB3 := mk (below_then HB2.out HB2.out.size hb); have Gg2 := mk (show w.heap.size ≤ g2 from by rw [hg_]; exact HB2.out.size); have Kg1_3 := mk (blk_below Kg1_2.out hb); have Kg3_3 := mk (blk_below Kg3_2.out hb); have Kg2_3 := mk hbox; have fg1_0 : w3.cell? ⟨g1, 0, none⟩ = some (.int .i64 a) := (blk_cell Kg1_3.out 0).trans rfl; have fg1_1 : w3.cell? ⟨g1, 1, none⟩ = some (.int .i64 b) := (blk_cell Kg1_3.out 1).trans rfl; have fg1_2 : w3.cell? ⟨g1, 2, none⟩ = some (.int .i64 p) := (blk_cell Kg1_3.out 2).trans rfl; have fg1_3 : w3.cell? ⟨g1, 3, none⟩ = some (.slice A d.length c) := (blk_cell Kg1_3.out 3).trans rfl; have fg3_0 : w3.cell? ⟨g3, 0, none⟩ = some (.int .i64 0) := (blk_cell Kg3_3.out 0).trans rfl; clear hbox hb hg_) | (go_at_call 25; (with_reducible refine (impl_MirrorImage.calls a b p A c d a b p (imgD (mirPx a p d) a.toNat b.toNat) w3 (Kd.C_below HR.out HB3.out) HC.out E1.out).mono ?_); rintro e w4 ⟨v4, rfl, hr4, hb_⟩; have HB4 := mk (below_then HB3.out HB3.out.size hb_); have Kg2_4 := mk (blk_below Kg2_3.out hb_); have eg2_4_0 : w4.cell? ⟨g2, 0, none⟩ = some (.int .i64 0) := (blk_cell Kg2_4.out 0).trans rfl; have eg2_4_1 : w4.cell? ⟨g2, 1, none⟩ = some (.int .i64 0) := (blk_cell Kg2_4.out 1).trans rfl; have eg2_4_2 : w4.cell? ⟨g2, 2, none⟩ = some (.int .i64 0) := (blk_cell Kg2_4.out 2).trans rfl; have eg2_4_3 : w4.cell? ⟨g2, 3, none⟩ = some (.slice none 0 0) := (blk_cell Kg2_4.out 3).trans rfl; have yg2_4_0 := blk_frozen Kg2_4.out 0; have yg2_4_1 := blk_frozen Kg2_4.out 1; have yg2_4_2 := blk_frozen Kg2_4.out 2; have yg2_4_3 := blk_frozen Kg2_4.out 3; have HR4 := mk (Kd.R_lower hr4 HB3.out.size); obtain ⟨A4, c4, ev4⟩ := Kd.R_slice HR4.out; subst ev4; clear hr4 hb_))
 have G2 := Gg2.out
 have RR := Kd.R_types HR4.out Kg2_4.out (by decide)
 refine bodyPost_ret (results_ct rfl _ _ g2 28 #[.int .i64 a, .int .i64 b, .int .i64 p, .slice A4 (imgD (mirPx a p d) a.toNat b.toNat).length c4] (0, 0) _ rfl (by
  refine blk_put (cs := #[.int .i64 a, .int .i64 b, .int .i64 p, .slice none 0 0]) ?_ 3 _ rfl
  refine blk_put (cs := #[.int .i64 a, .int .i64 b, .int .i64 0, .slice none 0 0]) ?_ 2 _ rfl
  refine blk_put (cs := #[.int .i64 a, .int .i64 0, .int .i64 0, .slice none 0 0]) ?_ 1 _ rfl
  refine blk_put (cs := #[.int .i64 0, .int .i64 0, .int .i64 0, .slice none 0 0]) ?_ 0 _ rfl
  exact Kg2_4.out
  ) hu rfl (by kernel_rfl)) rfl ?_
 exact ⟨_, rfl, Kd.R_mono (Kd.R_far (Kd.R_far (Kd.R_far (Kd.R_far RR (fun k hk => hk.2) _) (fun k hk => hk.2) _) (fun k hk => hk.2) _) (fun k hk => hk.2) _) (fun _ _ => trivial), below_set (below_set (below_set (below_set HB4.out (by omega)) (by omega)) (by omega)) (by omega)⟩
set_option maxHeartbeats 4000000 in
set_option maxRecDepth 100000 in
theorem step1 (a b p : Int) (A : Option Addr) (c : Nat) (d : List Int) (x y wd hg : Int) (A3 : Option Addr) (c3 : Nat) (pix : List Int) (w : World) (hr0_3 : Kd.C (Kd.int .i64) w A d.length d) (hc0_3 : d.length ≤ c) (hr3 : Kd.C (Kd.int .i64) w A3 pix.length pix) (hc3 : pix.length ≤ c3) (hv1 : validI a b p d = true) :
  Calls Try.prog 45 #[.agg #[.int .i64 a, .int .i64 b, .int .i64 p, .slice A d.length c], .agg #[.int .i64 1, .int .i64 x, .int .i64 y, .int .i64 wd, .int .i64 hg, .slice A3 pix.length c3]] w fun e w' => ∃ v3_ : Value, e = .returned (.tuple #[.agg #[.int .i64 b, .int .i64 a, .int .i64 p, v3_], .bool true]) ∧ Kd.R (Kd.int .i64) 3 w' w.heap.size (fun _ => True) v3_ (imgD (turnPx a b p d) b.toNat a.toNat) ∧ Below w.heap.size w w' := by
 have HC := mk hc0_3
 have HR := mk hr0_3
 have HB0 := mk (Below.refl w.heap.size w)
 have hu := Try.underlying28
 clear hr0_3 hc0_3 hr3 hc3
 have E1 := mk (show impl_TurnImage.f a b p d 1 = some (b, a, p, imgD (turnPx a b p d) b.toNat a.toNat) from by unfold impl_TurnImage.f; rw [if_pos rfl, hv1, if_pos rfl])
 clear hv1
 go_enter Try.func45, Try.ntmps45
 go_wp2_with (first | ((with_reducible refine gate_dst (N := 2) rfl ?_); refine box_event (by rfl) (N := 2) (by rfl) (cs := #[.int .i64 a, .int .i64 b, .int .i64 p, .slice A d.length c]) (t := 28) (by go_simp; done) ?_; intro g1 hg_ w1 hbox hb; have HB1 := mk (below_then HB0.out HB0.out.size hb); have Kg1_1 := mk hbox; clear hbox hb hg_) | ((with_reducible refine gate_dst (N := 3) rfl ?_); refine box_event (by rfl) (N := 3) (by rfl) (cs := #[.int .i64 1, .int .i64 x, .int .i64 y, .int .i64 wd, .int .i64 hg, .slice A3 pix.length c3]) (t := 43) (by go_simp; done) ?_; intro g3 hg_ w2 hbox hb; have HB2 := mk (below_then HB1.out HB1.out.size hb); have Kg1_2 := mk (blk_below Kg1_1.out hb); have Kg3_2 := mk hbox; clear hbox hb hg_) | ((with_reducible refine gate_dst (N := 4) rfl ?_); refine box_event (by rfl) (N := 4) (by rfl) (cs := #[.int .i64 0, .int .i64 0, .int .i64 0, .slice none 0 0]) (t := 28) (by go_simp; done) ?_; intro g2 hg_ w3 hbox hb; have HB3 := mk (below_then HB2.out HB2.out.size hb); have Gg2 := mk (show w.heap.size ≤ g2 from by rw [hg_]; exact HB2.out.size); have Kg1_3 := mk (blk_below Kg1_2.out hb); have Kg3_3 := mk (blk_below Kg3_2.out hb); have Kg2_3 := mk hbox; have fg1_0 : w3.cell? ⟨g1, 0, none⟩ = some (.int .i64 a) := (blk_cell Kg1_3.out 0).trans rfl; have fg1_1 : w3.cell? ⟨g1, 1, none⟩ = some (.int .i64 b) := (blk_cell Kg1_3.out 1).trans rfl; have fg1_2 : w3.cell? ⟨g1, 2, none⟩ = some (.int .i64 p) := (blk_cell Kg1_3.out 2).trans rfl; have fg1_3 : w3.cell? ⟨g1, 3, none⟩ = some (.slice A d.length c) := (blk_cell Kg1_3.out 3).trans rfl; have fg3_0 : w3.cell? ⟨g3, 0, none⟩ = some (.int .i64 1) := (blk_cell Kg3_3.out 0).trans rfl; clear hbox hb hg_) | (go_at_call 26; (with_reducible refine (impl_TurnImage.calls a b p A c d 1 b a p (imgD (turnPx a b p d) b.toNat a.toNat) w3 (Kd.C_below HR.out HB3.out) HC.out E1.out).mono ?_); rintro e w4 ⟨v4, rfl, hr4, hb_⟩; have HB4 := mk (below_then HB3.out HB3.out.size hb_); have Kg2_4 := mk (blk_below Kg2_3.out hb_); have eg2_4_0 : w4.cell? ⟨g2, 0, none⟩ = some (.int .i64 0) := (blk_cell Kg2_4.out 0).trans rfl; have eg2_4_1 : w4.cell? ⟨g2, 1, none⟩ = some (.int .i64 0) := (blk_cell Kg2_4.out 1).trans rfl; have eg2_4_2 : w4.cell? ⟨g2, 2, none⟩ = some (.int .i64 0) := (blk_cell Kg2_4.out 2).trans rfl; have eg2_4_3 : w4.cell? ⟨g2, 3, none⟩ = some (.slice none 0 0) := (blk_cell Kg2_4.out 3).trans rfl; have yg2_4_0 := blk_frozen Kg2_4.out 0; have yg2_4_1 := blk_frozen Kg2_4.out 1; have yg2_4_2 := blk_frozen Kg2_4.out 2; have yg2_4_3 := blk_frozen Kg2_4.out 3; have HR4 := mk (Kd.R_lower hr4 HB3.out.size); obtain ⟨A4, c4, ev4⟩ := Kd.R_slice HR4.out; subst ev4; clear hr4 hb_))
 have G2 := Gg2.out
 have RR := Kd.R_types HR4.out Kg2_4.out (by decide)
 refine bodyPost_ret (results_ct rfl _ _ g2 28 #[.int .i64 b, .int .i64 a, .int .i64 p, .slice A4 (imgD (turnPx a b p d) b.toNat a.toNat).length c4] (0, 0) _ rfl (by
  refine blk_put (cs := #[.int .i64 b, .int .i64 a, .int .i64 p, .slice none 0 0]) ?_ 3 _ rfl
  refine blk_put (cs := #[.int .i64 b, .int .i64 a, .int .i64 0, .slice none 0 0]) ?_ 2 _ rfl
  refine blk_put (cs := #[.int .i64 b, .int .i64 0, .int .i64 0, .slice none 0 0]) ?_ 1 _ rfl
  refine blk_put (cs := #[.int .i64 0, .int .i64 0, .int .i64 0, .slice none 0 0]) ?_ 0 _ rfl
  exact Kg2_4.out
  ) hu rfl (by kernel_rfl)) rfl ?_
 exact ⟨_, rfl, Kd.R_mono (Kd.R_far (Kd.R_far (Kd.R_far (Kd.R_far RR (fun k hk => hk.2) _) (fun k hk => hk.2) _) (fun k hk => hk.2) _) (fun k hk => hk.2) _) (fun _ _ => trivial), below_set (below_set (below_set (below_set HB4.out (by omega)) (by omega)) (by omega)) (by omega)⟩
set_option maxHeartbeats 4000000 in
set_option maxRecDepth 100000 in
theorem step2 (a b p : Int) (A : Option Addr) (c : Nat) (d : List Int) (x y wd hg : Int) (A3 : Option Addr) (c3 : Nat) (pix : List Int) (w : World) (hr0_3 : Kd.C (Kd.int .i64) w A d.length d) (hc0_3 : d.length ≤ c) (hr3 : Kd.C (Kd.int .i64) w A3 pix.length pix) (hc3 : pix.length ≤ c3) (hv1 : validI a b p d = true) :
  Calls Try.prog 45 #[.agg #[.int .i64 a, .int .i64 b, .int .i64 p, .slice A d.length c], .agg #[.int .i64 2, .int .i64 x, .int .i64 y, .int .i64 wd, .int .i64 hg, .slice A3 pix.length c3]] w fun e w' => ∃ v3_ : Value, e = .returned (.tuple #[.agg #[.int .i64 a, .int .i64 b, .int .i64 p, v3_], .bool true]) ∧ Kd.R (Kd.int .i64) 3 w' w.heap.size (fun _ => True) v3_ (invD d) ∧ Below w.heap.size w w' := by
 have HC := mk hc0_3
 have HR := mk hr0_3
 have HB0 := mk (Below.refl w.heap.size w)
 have hu := Try.underlying28
 clear hr0_3 hc0_3 hr3 hc3
 have E1 := mk (show impl_InvertImage.f a b p d = some (a, b, p, invD d) from by unfold impl_InvertImage.f; rw [hv1, if_pos rfl])
 clear hv1
 go_enter Try.func45, Try.ntmps45
 go_wp2_with (first | ((with_reducible refine gate_dst (N := 2) rfl ?_); refine box_event (by rfl) (N := 2) (by rfl) (cs := #[.int .i64 a, .int .i64 b, .int .i64 p, .slice A d.length c]) (t := 28) (by go_simp; done) ?_; intro g1 hg_ w1 hbox hb; have HB1 := mk (below_then HB0.out HB0.out.size hb); have Kg1_1 := mk hbox; clear hbox hb hg_) | ((with_reducible refine gate_dst (N := 3) rfl ?_); refine box_event (by rfl) (N := 3) (by rfl) (cs := #[.int .i64 2, .int .i64 x, .int .i64 y, .int .i64 wd, .int .i64 hg, .slice A3 pix.length c3]) (t := 43) (by go_simp; done) ?_; intro g3 hg_ w2 hbox hb; have HB2 := mk (below_then HB1.out HB1.out.size hb); have Kg1_2 := mk (blk_below Kg1_1.out hb); have Kg3_2 := mk hbox; clear hbox hb hg_) | ((with_reducible refine gate_dst (N := 4) rfl ?_); refine box_event (by rfl) (N := 4) (by rfl) (cs := #[.int .i64 0, .int .i64 0, .int .i64 0, .slice none 0 0]) (t := 28) (by go_simp; done) ?_; intro g2 hg_ w3 hbox hb; have HB3 := mk (below_then HB2.out HB2.out.size hb); have Gg2 := mk (show w.heap.size ≤ g2 from by rw [hg_]; exact HB2.out.size); have Kg1_3 := mk (blk_below Kg1_2.out hb); have Kg3_3 := mk (blk_below Kg3_2.out hb); have Kg2_3 := mk hbox; have fg1_0 : w3.cell? ⟨g1, 0, none⟩ = some (.int .i64 a) := (blk_cell Kg1_3.out 0).trans rfl; have fg1_1 : w3.cell? ⟨g1, 1, none⟩ = some (.int .i64 b) := (blk_cell Kg1_3.out 1).trans rfl; have fg1_2 : w3.cell? ⟨g1, 2, none⟩ = some (.int .i64 p) := (blk_cell Kg1_3.out 2).trans rfl; have fg1_3 : w3.cell? ⟨g1, 3, none⟩ = some (.slice A d.length c) := (blk_cell Kg1_3.out 3).trans rfl; have fg3_0 : w3.cell? ⟨g3, 0, none⟩ = some (.int .i64 2) := (blk_cell Kg3_3.out 0).trans rfl; clear hbox hb hg_) | (go_at_call 27; (with_reducible refine (impl_InvertImage.calls a b p A c d a b p (invD d) w3 (Kd.C_below HR.out HB3.out) HC.out E1.out).mono ?_); rintro e w4 ⟨v4, rfl, hr4, hb_⟩; have HB4 := mk (below_then HB3.out HB3.out.size hb_); have Kg2_4 := mk (blk_below Kg2_3.out hb_); have eg2_4_0 : w4.cell? ⟨g2, 0, none⟩ = some (.int .i64 0) := (blk_cell Kg2_4.out 0).trans rfl; have eg2_4_1 : w4.cell? ⟨g2, 1, none⟩ = some (.int .i64 0) := (blk_cell Kg2_4.out 1).trans rfl; have eg2_4_2 : w4.cell? ⟨g2, 2, none⟩ = some (.int .i64 0) := (blk_cell Kg2_4.out 2).trans rfl; have eg2_4_3 : w4.cell? ⟨g2, 3, none⟩ = some (.slice none 0 0) := (blk_cell Kg2_4.out 3).trans rfl; have yg2_4_0 := blk_frozen Kg2_4.out 0; have yg2_4_1 := blk_frozen Kg2_4.out 1; have yg2_4_2 := blk_frozen Kg2_4.out 2; have yg2_4_3 := blk_frozen Kg2_4.out 3; have HR4 := mk (Kd.R_lower hr4 HB3.out.size); obtain ⟨A4, c4, ev4⟩ := Kd.R_slice HR4.out; subst ev4; clear hr4 hb_))
 have G2 := Gg2.out
 have RR := Kd.R_types HR4.out Kg2_4.out (by decide)
 refine bodyPost_ret (results_ct rfl _ _ g2 28 #[.int .i64 a, .int .i64 b, .int .i64 p, .slice A4 (invD d).length c4] (0, 0) _ rfl (by
  refine blk_put (cs := #[.int .i64 a, .int .i64 b, .int .i64 p, .slice none 0 0]) ?_ 3 _ rfl
  refine blk_put (cs := #[.int .i64 a, .int .i64 b, .int .i64 0, .slice none 0 0]) ?_ 2 _ rfl
  refine blk_put (cs := #[.int .i64 a, .int .i64 0, .int .i64 0, .slice none 0 0]) ?_ 1 _ rfl
  refine blk_put (cs := #[.int .i64 0, .int .i64 0, .int .i64 0, .slice none 0 0]) ?_ 0 _ rfl
  exact Kg2_4.out
  ) hu rfl (by kernel_rfl)) rfl ?_
 exact ⟨_, rfl, Kd.R_mono (Kd.R_far (Kd.R_far (Kd.R_far (Kd.R_far RR (fun k hk => hk.2) _) (fun k hk => hk.2) _) (fun k hk => hk.2) _) (fun k hk => hk.2) _) (fun _ _ => trivial), below_set (below_set (below_set (below_set HB4.out (by omega)) (by omega)) (by omega)) (by omega)⟩
set_option maxHeartbeats 4000000 in
set_option maxRecDepth 100000 in
theorem step3_yes (a b p : Int) (A : Option Addr) (c : Nat) (d : List Int) (x y wd hg : Int) (A3 : Option Addr) (c3 : Nat) (pix : List Int) (w : World) (hr0_3 : Kd.C (Kd.int .i64) w A d.length d) (hc0_3 : d.length ≤ c) (hr3 : Kd.C (Kd.int .i64) w A3 pix.length pix) (hc3 : pix.length ≤ c3) (hv1 : validI a b p d = true) (hv2 : boxOn a b x y wd hg = true) :
  Calls Try.prog 45 #[.agg #[.int .i64 a, .int .i64 b, .int .i64 p, .slice A d.length c], .agg #[.int .i64 3, .int .i64 x, .int .i64 y, .int .i64 wd, .int .i64 hg, .slice A3 pix.length c3]] w fun e w' => ∃ v3_ : Value, e = .returned (.tuple #[.agg #[.int .i64 wd, .int .i64 hg, .int .i64 p, v3_], .bool true]) ∧ Kd.R (Kd.int .i64) 3 w' w.heap.size (fun _ => True) v3_ (imgD (cropPx a p d x.toNat y.toNat) wd.toNat hg.toNat) ∧ Below w.heap.size w w' := by
 have HC := mk hc0_3
 have HR := mk hr0_3
 have HB0 := mk (Below.refl w.heap.size w)
 have hu := Try.underlying28
 clear hr0_3 hc0_3 hr3 hc3
 have E1 := mk (show impl_CropImage.f a b p d x y wd hg = some (wd, hg, p, imgD (cropPx a p d x.toNat y.toNat) wd.toNat hg.toNat, true) from by unfold impl_CropImage.f; rw [hv1, hv2, if_pos ⟨rfl, rfl⟩])
 clear hv1 hv2
 go_enter Try.func45, Try.ntmps45
 go_wp2_with (first | ((with_reducible refine gate_dst (N := 2) rfl ?_); refine box_event (by rfl) (N := 2) (by rfl) (cs := #[.int .i64 a, .int .i64 b, .int .i64 p, .slice A d.length c]) (t := 28) (by go_simp; done) ?_; intro g1 hg_ w1 hbox hb; have HB1 := mk (below_then HB0.out HB0.out.size hb); have Kg1_1 := mk hbox; clear hbox hb hg_) | ((with_reducible refine gate_dst (N := 3) rfl ?_); refine box_event (by rfl) (N := 3) (by rfl) (cs := #[.int .i64 3, .int .i64 x, .int .i64 y, .int .i64 wd, .int .i64 hg, .slice A3 pix.length c3]) (t := 43) (by go_simp; done) ?_; intro g3 hg_ w2 hbox hb; have HB2 := mk (below_then HB1.out HB1.out.size hb); have Kg1_2 := mk (blk_below Kg1_1.out hb); have Kg3_2 := mk hbox; clear hbox hb hg_) | ((with_reducible refine gate_dst (N := 4) rfl ?_); refine box_event (by rfl) (N := 4) (by rfl) (cs := #[.int .i64 0, .int .i64 0, .int .i64 0, .slice none 0 0]) (t := 28) (by go_simp; done) ?_; intro g2 hg_ w3 hbox hb; have HB3 := mk (below_then HB2.out HB2.out.size hb); have Gg2 := mk (show w.heap.size ≤ g2 from by rw [hg_]; exact HB2.out.size); have Kg1_3 := mk (blk_below Kg1_2.out hb); have Kg3_3 := mk (blk_below Kg3_2.out hb); have Kg2_3 := mk hbox; have fg1_0 : w3.cell? ⟨g1, 0, none⟩ = some (.int .i64 a) := (blk_cell Kg1_3.out 0).trans rfl; have fg1_1 : w3.cell? ⟨g1, 1, none⟩ = some (.int .i64 b) := (blk_cell Kg1_3.out 1).trans rfl; have fg1_2 : w3.cell? ⟨g1, 2, none⟩ = some (.int .i64 p) := (blk_cell Kg1_3.out 2).trans rfl; have fg1_3 : w3.cell? ⟨g1, 3, none⟩ = some (.slice A d.length c) := (blk_cell Kg1_3.out 3).trans rfl; have fg3_0 : w3.cell? ⟨g3, 0, none⟩ = some (.int .i64 3) := (blk_cell Kg3_3.out 0).trans rfl; have fg3_1 : w3.cell? ⟨g3, 1, none⟩ = some (.int .i64 x) := (blk_cell Kg3_3.out 1).trans rfl; have fg3_2 : w3.cell? ⟨g3, 2, none⟩ = some (.int .i64 y) := (blk_cell Kg3_3.out 2).trans rfl; have fg3_3 : w3.cell? ⟨g3, 3, none⟩ = some (.int .i64 wd) := (blk_cell Kg3_3.out 3).trans rfl; have fg3_4 : w3.cell? ⟨g3, 4, none⟩ = some (.int .i64 hg) := (blk_cell Kg3_3.out 4).trans rfl; clear hbox hb hg_) | (go_at_call 29; (with_reducible refine (impl_CropImage.calls a b p A c d x y wd hg wd hg p (imgD (cropPx a p d x.toNat y.toNat) wd.toNat hg.toNat) true w3 (Kd.C_below HR.out HB3.out) HC.out E1.out).mono ?_); rintro e w4 ⟨v4, rfl, hr4, hb_⟩; have HB4 := mk (below_then HB3.out HB3.out.size hb_); have Kg2_4 := mk (blk_below Kg2_3.out hb_); have eg2_4_0 : w4.cell? ⟨g2, 0, none⟩ = some (.int .i64 0) := (blk_cell Kg2_4.out 0).trans rfl; have eg2_4_1 : w4.cell? ⟨g2, 1, none⟩ = some (.int .i64 0) := (blk_cell Kg2_4.out 1).trans rfl; have eg2_4_2 : w4.cell? ⟨g2, 2, none⟩ = some (.int .i64 0) := (blk_cell Kg2_4.out 2).trans rfl; have eg2_4_3 : w4.cell? ⟨g2, 3, none⟩ = some (.slice none 0 0) := (blk_cell Kg2_4.out 3).trans rfl; have yg2_4_0 := blk_frozen Kg2_4.out 0; have yg2_4_1 := blk_frozen Kg2_4.out 1; have yg2_4_2 := blk_frozen Kg2_4.out 2; have yg2_4_3 := blk_frozen Kg2_4.out 3; have HR4 := mk (Kd.R_lower hr4 HB3.out.size); obtain ⟨A4, c4, ev4⟩ := Kd.R_slice HR4.out; subst ev4; clear hr4 hb_))
 have G2 := Gg2.out
 have RR := Kd.R_types HR4.out Kg2_4.out (by decide)
 refine bodyPost_ret (results_ct rfl _ _ g2 28 #[.int .i64 wd, .int .i64 hg, .int .i64 p, .slice A4 (imgD (cropPx a p d x.toNat y.toNat) wd.toNat hg.toNat).length c4] (0, 0) _ rfl (by
  refine blk_put (cs := #[.int .i64 wd, .int .i64 hg, .int .i64 p, .slice none 0 0]) ?_ 3 _ rfl
  refine blk_put (cs := #[.int .i64 wd, .int .i64 hg, .int .i64 0, .slice none 0 0]) ?_ 2 _ rfl
  refine blk_put (cs := #[.int .i64 wd, .int .i64 0, .int .i64 0, .slice none 0 0]) ?_ 1 _ rfl
  refine blk_put (cs := #[.int .i64 0, .int .i64 0, .int .i64 0, .slice none 0 0]) ?_ 0 _ rfl
  exact Kg2_4.out
  ) hu rfl (by kernel_rfl)) rfl ?_
 exact ⟨_, rfl, Kd.R_mono (Kd.R_far (Kd.R_far (Kd.R_far (Kd.R_far RR (fun k hk => hk.2) _) (fun k hk => hk.2) _) (fun k hk => hk.2) _) (fun k hk => hk.2) _) (fun _ _ => trivial), below_set (below_set (below_set (below_set HB4.out (by omega)) (by omega)) (by omega)) (by omega)⟩
set_option maxHeartbeats 4000000 in
set_option maxRecDepth 100000 in
theorem step3_no (a b p : Int) (A : Option Addr) (c : Nat) (d : List Int) (x y wd hg : Int) (A3 : Option Addr) (c3 : Nat) (pix : List Int) (w : World) (hr0_3 : Kd.C (Kd.int .i64) w A d.length d) (hc0_3 : d.length ≤ c) (hr3 : Kd.C (Kd.int .i64) w A3 pix.length pix) (hc3 : pix.length ≤ c3) (hv1 : validI a b p d = true) (hv2 : boxOn a b x y wd hg = false) :
  Calls Try.prog 45 #[.agg #[.int .i64 a, .int .i64 b, .int .i64 p, .slice A d.length c], .agg #[.int .i64 3, .int .i64 x, .int .i64 y, .int .i64 wd, .int .i64 hg, .slice A3 pix.length c3]] w fun e w' => ∃ v3_ : Value, e = .returned (.tuple #[.agg #[.int .i64 0, .int .i64 0, .int .i64 0, v3_], .bool false]) ∧ Kd.R (Kd.int .i64) 3 w' w.heap.size (fun _ => True) v3_ [] ∧ Below w.heap.size w w' := by
 have HC := mk hc0_3
 have HR := mk hr0_3
 have HB0 := mk (Below.refl w.heap.size w)
 have hu := Try.underlying28
 clear hr0_3 hc0_3 hr3 hc3
 have E1 := mk (show impl_CropImage.f a b p d x y wd hg = some (0, 0, 0, [], false) from by unfold impl_CropImage.f; rw [hv1, hv2, if_neg (by simp)])
 clear hv1 hv2
 go_enter Try.func45, Try.ntmps45
 go_wp2_with (first | ((with_reducible refine gate_dst (N := 2) rfl ?_); refine box_event (by rfl) (N := 2) (by rfl) (cs := #[.int .i64 a, .int .i64 b, .int .i64 p, .slice A d.length c]) (t := 28) (by go_simp; done) ?_; intro g1 hg_ w1 hbox hb; have HB1 := mk (below_then HB0.out HB0.out.size hb); have Kg1_1 := mk hbox; clear hbox hb hg_) | ((with_reducible refine gate_dst (N := 3) rfl ?_); refine box_event (by rfl) (N := 3) (by rfl) (cs := #[.int .i64 3, .int .i64 x, .int .i64 y, .int .i64 wd, .int .i64 hg, .slice A3 pix.length c3]) (t := 43) (by go_simp; done) ?_; intro g3 hg_ w2 hbox hb; have HB2 := mk (below_then HB1.out HB1.out.size hb); have Kg1_2 := mk (blk_below Kg1_1.out hb); have Kg3_2 := mk hbox; clear hbox hb hg_) | ((with_reducible refine gate_dst (N := 4) rfl ?_); refine box_event (by rfl) (N := 4) (by rfl) (cs := #[.int .i64 0, .int .i64 0, .int .i64 0, .slice none 0 0]) (t := 28) (by go_simp; done) ?_; intro g2 hg_ w3 hbox hb; have HB3 := mk (below_then HB2.out HB2.out.size hb); have Gg2 := mk (show w.heap.size ≤ g2 from by rw [hg_]; exact HB2.out.size); have Kg1_3 := mk (blk_below Kg1_2.out hb); have Kg3_3 := mk (blk_below Kg3_2.out hb); have Kg2_3 := mk hbox; have fg1_0 : w3.cell? ⟨g1, 0, none⟩ = some (.int .i64 a) := (blk_cell Kg1_3.out 0).trans rfl; have fg1_1 : w3.cell? ⟨g1, 1, none⟩ = some (.int .i64 b) := (blk_cell Kg1_3.out 1).trans rfl; have fg1_2 : w3.cell? ⟨g1, 2, none⟩ = some (.int .i64 p) := (blk_cell Kg1_3.out 2).trans rfl; have fg1_3 : w3.cell? ⟨g1, 3, none⟩ = some (.slice A d.length c) := (blk_cell Kg1_3.out 3).trans rfl; have fg3_0 : w3.cell? ⟨g3, 0, none⟩ = some (.int .i64 3) := (blk_cell Kg3_3.out 0).trans rfl; have fg3_1 : w3.cell? ⟨g3, 1, none⟩ = some (.int .i64 x) := (blk_cell Kg3_3.out 1).trans rfl; have fg3_2 : w3.cell? ⟨g3, 2, none⟩ = some (.int .i64 y) := (blk_cell Kg3_3.out 2).trans rfl; have fg3_3 : w3.cell? ⟨g3, 3, none⟩ = some (.int .i64 wd) := (blk_cell Kg3_3.out 3).trans rfl; have fg3_4 : w3.cell? ⟨g3, 4, none⟩ = some (.int .i64 hg) := (blk_cell Kg3_3.out 4).trans rfl; clear hbox hb hg_) | (go_at_call 29; (with_reducible refine (impl_CropImage.calls a b p A c d x y wd hg 0 0 0 [] false w3 (Kd.C_below HR.out HB3.out) HC.out E1.out).mono ?_); rintro e w4 ⟨v4, rfl, hr4, hb_⟩; have HB4 := mk (below_then HB3.out HB3.out.size hb_); have Kg2_4 := mk (blk_below Kg2_3.out hb_); have eg2_4_0 : w4.cell? ⟨g2, 0, none⟩ = some (.int .i64 0) := (blk_cell Kg2_4.out 0).trans rfl; have eg2_4_1 : w4.cell? ⟨g2, 1, none⟩ = some (.int .i64 0) := (blk_cell Kg2_4.out 1).trans rfl; have eg2_4_2 : w4.cell? ⟨g2, 2, none⟩ = some (.int .i64 0) := (blk_cell Kg2_4.out 2).trans rfl; have eg2_4_3 : w4.cell? ⟨g2, 3, none⟩ = some (.slice none 0 0) := (blk_cell Kg2_4.out 3).trans rfl; have yg2_4_0 := blk_frozen Kg2_4.out 0; have yg2_4_1 := blk_frozen Kg2_4.out 1; have yg2_4_2 := blk_frozen Kg2_4.out 2; have yg2_4_3 := blk_frozen Kg2_4.out 3; have HR4 := mk (Kd.R_lower hr4 HB3.out.size); obtain ⟨A4, c4, ev4⟩ := Kd.R_slice HR4.out; subst ev4; clear hr4 hb_))
 have G2 := Gg2.out
 have RR := Kd.R_types HR4.out Kg2_4.out (by decide)
 refine bodyPost_ret (results_ct rfl _ _ g2 28 #[.int .i64 0, .int .i64 0, .int .i64 0, .slice A4 0 c4] (0, 0) _ rfl (by
  refine blk_put (cs := #[.int .i64 0, .int .i64 0, .int .i64 0, .slice none 0 0]) ?_ 3 _ rfl
  refine blk_put (cs := #[.int .i64 0, .int .i64 0, .int .i64 0, .slice none 0 0]) ?_ 2 _ rfl
  refine blk_put (cs := #[.int .i64 0, .int .i64 0, .int .i64 0, .slice none 0 0]) ?_ 1 _ rfl
  refine blk_put (cs := #[.int .i64 0, .int .i64 0, .int .i64 0, .slice none 0 0]) ?_ 0 _ rfl
  exact Kg2_4.out
  ) hu rfl (by kernel_rfl)) rfl ?_
 exact ⟨_, rfl, Kd.R_mono (Kd.R_far (Kd.R_far (Kd.R_far (Kd.R_far RR (fun k hk => hk.2) _) (fun k hk => hk.2) _) (fun k hk => hk.2) _) (fun k hk => hk.2) _) (fun _ _ => trivial), below_set (below_set (below_set (below_set HB4.out (by omega)) (by omega)) (by omega)) (by omega)⟩
set_option maxHeartbeats 4000000 in
set_option maxRecDepth 100000 in
theorem step4_no1 (a b p : Int) (A : Option Addr) (c : Nat) (d : List Int) (x y wd hg : Int) (A3 : Option Addr) (c3 : Nat) (pix : List Int) (w : World) (hr0_3 : Kd.C (Kd.int .i64) w A d.length d) (hc0_3 : d.length ≤ c) (hr3 : Kd.C (Kd.int .i64) w A3 pix.length pix) (hc3 : pix.length ≤ c3) (hv1 : validI a b p d = true) (hv2 : boxOn a b x y wd hg = false) :
  Calls Try.prog 45 #[.agg #[.int .i64 a, .int .i64 b, .int .i64 p, .slice A d.length c], .agg #[.int .i64 4, .int .i64 x, .int .i64 y, .int .i64 wd, .int .i64 hg, .slice A3 pix.length c3]] w fun e w' => ∃ v3_ : Value, e = .returned (.tuple #[.agg #[.int .i64 0, .int .i64 0, .int .i64 0, v3_], .bool false]) ∧ Kd.R (Kd.int .i64) 3 w' w.heap.size (fun _ => True) v3_ [] ∧ Below w.heap.size w w' := by
 have HC := mk hc0_3
 have HR := mk hr0_3
 have HB0 := mk (Below.refl w.heap.size w)
 have hu := Try.underlying28
 clear hr0_3 hc0_3 hr3 hc3
 have E2 := mk (impl_isBoxOn_eq hv1 x y wd hg)
 rw [hv2] at E2
 clear hv1 hv2
 go_enter Try.func45, Try.ntmps45
 go_wp2_with (first | ((with_reducible refine gate_dst (N := 2) rfl ?_); refine box_event (by rfl) (N := 2) (by rfl) (cs := #[.int .i64 a, .int .i64 b, .int .i64 p, .slice A d.length c]) (t := 28) (by go_simp; done) ?_; intro g1 hg_ w1 hbox hb; have HB1 := mk (below_then HB0.out HB0.out.size hb); have Kg1_1 := mk hbox; clear hbox hb hg_) | ((with_reducible refine gate_dst (N := 3) rfl ?_); refine box_event (by rfl) (N := 3) (by rfl) (cs := #[.int .i64 4, .int .i64 x, .int .i64 y, .int .i64 wd, .int .i64 hg, .slice A3 pix.length c3]) (t := 43) (by go_simp; done) ?_; intro g3 hg_ w2 hbox hb; have HB2 := mk (below_then HB1.out HB1.out.size hb); have Kg1_2 := mk (blk_below Kg1_1.out hb); have Kg3_2 := mk hbox; clear hbox hb hg_) | ((with_reducible refine gate_dst (N := 4) rfl ?_); refine box_event (by rfl) (N := 4) (by rfl) (cs := #[.int .i64 0, .int .i64 0, .int .i64 0, .slice none 0 0]) (t := 28) (by go_simp; done) ?_; intro g2 hg_ w3 hbox hb; have HB3 := mk (below_then HB2.out HB2.out.size hb); have Gg2 := mk (show w.heap.size ≤ g2 from by rw [hg_]; exact HB2.out.size); have Kg1_3 := mk (blk_below Kg1_2.out hb); have Kg3_3 := mk (blk_below Kg3_2.out hb); have Kg2_3 := mk hbox; have fg1_0 : w3.cell? ⟨g1, 0, none⟩ = some (.int .i64 a) := (blk_cell Kg1_3.out 0).trans rfl; have fg1_1 : w3.cell? ⟨g1, 1, none⟩ = some (.int .i64 b) := (blk_cell Kg1_3.out 1).trans rfl; have fg1_2 : w3.cell? ⟨g1, 2, none⟩ = some (.int .i64 p) := (blk_cell Kg1_3.out 2).trans rfl; have fg1_3 : w3.cell? ⟨g1, 3, none⟩ = some (.slice A d.length c) := (blk_cell Kg1_3.out 3).trans rfl; have fg3_0 : w3.cell? ⟨g3, 0, none⟩ = some (.int .i64 4) := (blk_cell Kg3_3.out 0).trans rfl; have fg3_1 : w3.cell? ⟨g3, 1, none⟩ = some (.int .i64 x) := (blk_cell Kg3_3.out 1).trans rfl; have fg3_2 : w3.cell? ⟨g3, 2, none⟩ = some (.int .i64 y) := (blk_cell Kg3_3.out 2).trans rfl; have fg3_3 : w3.cell? ⟨g3, 3, none⟩ = some (.int .i64 wd) := (blk_cell Kg3_3.out 3).trans rfl; have fg3_4 : w3.cell? ⟨g3, 4, none⟩ = some (.int .i64 hg) := (blk_cell Kg3_3.out 4).trans rfl; clear hbox hb hg_) | (go_at_call 59; (with_reducible refine (impl_isBoxOn.calls a b p A c d x y wd hg _ w3 (Kd.C_below HR.out HB3.out) HC.out E2.out).mono ?_); rintro e w4 ⟨rfl, hb_⟩; have HB4 := mk (below_then HB3.out HB3.out.size hb_); have Kg2_4 := mk (blk_below Kg2_3.out hb_); have eg2_4_0 : w4.cell? ⟨g2, 0, none⟩ = some (.int .i64 0) := (blk_cell Kg2_4.out 0).trans rfl; have eg2_4_1 : w4.cell? ⟨g2, 1, none⟩ = some (.int .i64 0) := (blk_cell Kg2_4.out 1).trans rfl; have eg2_4_2 : w4.cell? ⟨g2, 2, none⟩ = some (.int .i64 0) := (blk_cell Kg2_4.out 2).trans rfl; have eg2_4_3 : w4.cell? ⟨g2, 3, none⟩ = some (.slice none 0 0) := (blk_cell Kg2_4.out 3).trans rfl; have yg2_4_0 := blk_frozen Kg2_4.out 0; have yg2_4_1 := blk_frozen Kg2_4.out 1; have yg2_4_2 := blk_frozen Kg2_4.out 2; have yg2_4_3 := blk_frozen Kg2_4.out 3; clear hb_))
 refine bodyPost_ret (results_ct rfl _ _ g2 28 #[.int .i64 0, .int .i64 0, .int .i64 0, .slice none 0 0] (0, 0) _ rfl (by
  refine blk_put (cs := #[.int .i64 0, .int .i64 0, .int .i64 0, .slice none 0 0]) ?_ 3 _ rfl
  refine blk_put (cs := #[.int .i64 0, .int .i64 0, .int .i64 0, .slice none 0 0]) ?_ 2 _ rfl
  refine blk_put (cs := #[.int .i64 0, .int .i64 0, .int .i64 0, .slice none 0 0]) ?_ 1 _ rfl
  refine blk_put (cs := #[.int .i64 0, .int .i64 0, .int .i64 0, .slice none 0 0]) ?_ 0 _ rfl
  exact Kg2_4.out
  ) hu rfl (by kernel_rfl)) rfl ?_
 have G2 := Gg2.out
 exact ⟨_, rfl, Kd.R_nil _ _ _ _ _, below_set (below_set (below_set (below_set HB4.out (by omega)) (by omega)) (by omega)) (by omega)⟩
set_option maxHeartbeats 4000000 in
set_option maxRecDepth 100000 in
theorem step4_no2 (a b p : Int) (A : Option Addr) (c : Nat) (d : List Int) (x y wd hg : Int) (A3 : Option Addr) (c3 : Nat) (pix : List Int) (w : World) (hr0_3 : Kd.C (Kd.int .i64) w A d.length d) (hc0_3 : d.length ≤ c) (hr3 : Kd.C (Kd.int .i64) w A3 pix.length pix) (hc3 : pix.length ≤ c3) (hv1 : validI a b p d = true) (hv2 : boxOn a b x y wd hg = true) (hv3 : ¬ (pix.length : Int) = p) :
  Calls Try.prog 45 #[.agg #[.int .i64 a, .int .i64 b, .int .i64 p, .slice A d.length c], .agg #[.int .i64 4, .int .i64 x, .int .i64 y, .int .i64 wd, .int .i64 hg, .slice A3 pix.length c3]] w fun e w' => ∃ v3_ : Value, e = .returned (.tuple #[.agg #[.int .i64 0, .int .i64 0, .int .i64 0, v3_], .bool false]) ∧ Kd.R (Kd.int .i64) 3 w' w.heap.size (fun _ => True) v3_ [] ∧ Below w.heap.size w w' := by
 have HC := mk hc0_3
 have HR := mk hr0_3
 have HB0 := mk (Below.refl w.heap.size w)
 have hu := Try.underlying28
 clear hr0_3 hc0_3 hr3 hc3
 have E2 := mk (impl_isBoxOn_eq hv1 x y wd hg)
 rw [hv2] at E2
 clear hv1 hv2
 go_enter Try.func45, Try.ntmps45
 go_wp2_with (first | ((with_reducible refine gate_dst (N := 2) rfl ?_); refine box_event (by rfl) (N := 2) (by rfl) (cs := #[.int .i64 a, .int .i64 b, .int .i64 p, .slice A d.length c]) (t := 28) (by go_simp; done) ?_; intro g1 hg_ w1 hbox hb; have HB1 := mk (below_then HB0.out HB0.out.size hb); have Kg1_1 := mk hbox; clear hbox hb hg_) | ((with_reducible refine gate_dst (N := 3) rfl ?_); refine box_event (by rfl) (N := 3) (by rfl) (cs := #[.int .i64 4, .int .i64 x, .int .i64 y, .int .i64 wd, .int .i64 hg, .slice A3 pix.length c3]) (t := 43) (by go_simp; done) ?_; intro g3 hg_ w2 hbox hb; have HB2 := mk (below_then HB1.out HB1.out.size hb); have Kg1_2 := mk (blk_below Kg1_1.out hb); have Kg3_2 := mk hbox; clear hbox hb hg_) | ((with_reducible refine gate_dst (N := 4) rfl ?_); refine box_event (by rfl) (N := 4) (by rfl) (cs := #[.int .i64 0, .int .i64 0, .int .i64 0, .slice none 0 0]) (t := 28) (by go_simp; done) ?_; intro g2 hg_ w3 hbox hb; have HB3 := mk (below_then HB2.out HB2.out.size hb); have Gg2 := mk (show w.heap.size ≤ g2 from by rw [hg_]; exact HB2.out.size); have Kg1_3 := mk (blk_below Kg1_2.out hb); have Kg3_3 := mk (blk_below Kg3_2.out hb); have Kg2_3 := mk hbox; have fg1_0 : w3.cell? ⟨g1, 0, none⟩ = some (.int .i64 a) := (blk_cell Kg1_3.out 0).trans rfl; have fg1_1 : w3.cell? ⟨g1, 1, none⟩ = some (.int .i64 b) := (blk_cell Kg1_3.out 1).trans rfl; have fg1_2 : w3.cell? ⟨g1, 2, none⟩ = some (.int .i64 p) := (blk_cell Kg1_3.out 2).trans rfl; have fg1_3 : w3.cell? ⟨g1, 3, none⟩ = some (.slice A d.length c) := (blk_cell Kg1_3.out 3).trans rfl; have fg3_0 : w3.cell? ⟨g3, 0, none⟩ = some (.int .i64 4) := (blk_cell Kg3_3.out 0).trans rfl; have fg3_1 : w3.cell? ⟨g3, 1, none⟩ = some (.int .i64 x) := (blk_cell Kg3_3.out 1).trans rfl; have fg3_2 : w3.cell? ⟨g3, 2, none⟩ = some (.int .i64 y) := (blk_cell Kg3_3.out 2).trans rfl; have fg3_3 : w3.cell? ⟨g3, 3, none⟩ = some (.int .i64 wd) := (blk_cell Kg3_3.out 3).trans rfl; have fg3_4 : w3.cell? ⟨g3, 4, none⟩ = some (.int .i64 hg) := (blk_cell Kg3_3.out 4).trans rfl; clear hbox hb hg_) | (go_at_call 59; (with_reducible refine (impl_isBoxOn.calls a b p A c d x y wd hg _ w3 (Kd.C_below HR.out HB3.out) HC.out E2.out).mono ?_); rintro e w4 ⟨rfl, hb_⟩; have HB4 := mk (below_then HB3.out HB3.out.size hb_); have Kg1_4 := mk (blk_below Kg1_3.out hb_); have eg1_4_2 : w4.cell? ⟨g1, 2, none⟩ = some (.int .i64 p) := (blk_cell Kg1_4.out 2).trans rfl; have Kg3_4 := mk (blk_below Kg3_3.out hb_); have eg3_4_5 : w4.cell? ⟨g3, 5, none⟩ = some (.slice A3 pix.length c3) := (blk_cell Kg3_4.out 5).trans rfl; have Kg2_4 := mk (blk_below Kg2_3.out hb_); have eg2_4_0 : w4.cell? ⟨g2, 0, none⟩ = some (.int .i64 0) := (blk_cell Kg2_4.out 0).trans rfl; have eg2_4_1 : w4.cell? ⟨g2, 1, none⟩ = some (.int .i64 0) := (blk_cell Kg2_4.out 1).trans rfl; have eg2_4_2 : w4.cell? ⟨g2, 2, none⟩ = some (.int .i64 0) := (blk_cell Kg2_4.out 2).trans rfl; have eg2_4_3 : w4.cell? ⟨g2, 3, none⟩ = some (.slice none 0 0) := (blk_cell Kg2_4.out 3).trans rfl; have yg2_4_0 := blk_frozen Kg2_4.out 0; have yg2_4_1 := blk_frozen Kg2_4.out 1; have yg2_4_2 := blk_frozen Kg2_4.out 2; have yg2_4_3 := blk_frozen Kg2_4.out 3; clear hb_))
 refine bodyPost_ret (results_ct rfl _ _ g2 28 #[.int .i64 0, .int .i64 0, .int .i64 0, .slice none 0 0] (0, 0) _ rfl (by
  refine blk_put (cs := #[.int .i64 0, .int .i64 0, .int .i64 0, .slice none 0 0]) ?_ 3 _ rfl
  refine blk_put (cs := #[.int .i64 0, .int .i64 0, .int .i64 0, .slice none 0 0]) ?_ 2 _ rfl
  refine blk_put (cs := #[.int .i64 0, .int .i64 0, .int .i64 0, .slice none 0 0]) ?_ 1 _ rfl
  refine blk_put (cs := #[.int .i64 0, .int .i64 0, .int .i64 0, .slice none 0 0]) ?_ 0 _ rfl
  exact Kg2_4.out
  ) hu rfl (by kernel_rfl)) rfl ?_
 have G2 := Gg2.out
 exact ⟨_, rfl, Kd.R_nil _ _ _ _ _, below_set (below_set (below_set (below_set HB4.out (by omega)) (by omega)) (by omega)) (by omega)⟩
set_option maxHeartbeats 4000000 in
set_option maxRecDepth 100000 in
theorem step4_no3 (a b : Int) (A : Option Addr) (c : Nat) (d : List Int) (x y wd hg : Int) (A3 : Option Addr) (c3 : Nat) (pix : List Int) (w : World) (hr0_3 : Kd.C (Kd.int .i64) w A d.length d) (hc0_3 : d.length ≤ c) (hr3 : Kd.C (Kd.int .i64) w A3 pix.length pix) (hc3 : pix.length ≤ c3) (hv1 : validI a b (pix.length : Int) d = true) (hv2 : boxOn a b x y wd hg = true) (hv4 : pix.all byteI = false) :
  Calls Try.prog 45 #[.agg #[.int .i64 a, .int .i64 b, .int .i64 (pix.length : Int), .slice A d.length c], .agg #[.int .i64 4, .int .i64 x, .int .i64 y, .int .i64 wd, .int .i64 hg, .slice A3 pix.length c3]] w fun e w' => ∃ v3_ : Value, e = .returned (.tuple #[.agg #[.int .i64 0, .int .i64 0, .int .i64 0, v3_], .bool false]) ∧ Kd.R (Kd.int .i64) 3 w' w.heap.size (fun _ => True) v3_ [] ∧ Below w.heap.size w w' := by
 have HC := mk hc0_3
 have HR := mk hr0_3
 have HC3 := mk hc3
 have HR3 := mk hr3
 have HB0 := mk (Below.refl w.heap.size w)
 have hu := Try.underlying28
 clear hr0_3 hc0_3 hr3 hc3
 have E2 := mk (impl_isBoxOn_eq hv1 x y wd hg)
 rw [hv2] at E2
 have E3 := mk (areBytesI_eq pix)
 rw [hv4] at E3
 clear hv1 hv2 hv4
 go_enter Try.func45, Try.ntmps45
 go_wp2_with (first | ((with_reducible refine gate_dst (N := 2) rfl ?_); refine box_event (by rfl) (N := 2) (by rfl) (cs := #[.int .i64 a, .int .i64 b, .int .i64 (pix.length : Int), .slice A d.length c]) (t := 28) (by go_simp; done) ?_; intro g1 hg_ w1 hbox hb; have HB1 := mk (below_then HB0.out HB0.out.size hb); have Kg1_1 := mk hbox; clear hbox hb hg_) | ((with_reducible refine gate_dst (N := 3) rfl ?_); refine box_event (by rfl) (N := 3) (by rfl) (cs := #[.int .i64 4, .int .i64 x, .int .i64 y, .int .i64 wd, .int .i64 hg, .slice A3 pix.length c3]) (t := 43) (by go_simp; done) ?_; intro g3 hg_ w2 hbox hb; have HB2 := mk (below_then HB1.out HB1.out.size hb); have Kg1_2 := mk (blk_below Kg1_1.out hb); have Kg3_2 := mk hbox; clear hbox hb hg_) | ((with_reducible refine gate_dst (N := 4) rfl ?_); refine box_event (by rfl) (N := 4) (by rfl) (cs := #[.int .i64 0, .int .i64 0, .int .i64 0, .slice none 0 0]) (t := 28) (by go_simp; done) ?_; intro g2 hg_ w3 hbox hb; have HB3 := mk (below_then HB2.out HB2.out.size hb); have Gg2 := mk (show w.heap.size ≤ g2 from by rw [hg_]; exact HB2.out.size); have Kg1_3 := mk (blk_below Kg1_2.out hb); have Kg3_3 := mk (blk_below Kg3_2.out hb); have Kg2_3 := mk hbox; have fg1_0 : w3.cell? ⟨g1, 0, none⟩ = some (.int .i64 a) := (blk_cell Kg1_3.out 0).trans rfl; have fg1_1 : w3.cell? ⟨g1, 1, none⟩ = some (.int .i64 b) := (blk_cell Kg1_3.out 1).trans rfl; have fg1_2 : w3.cell? ⟨g1, 2, none⟩ = some (.int .i64 (pix.length : Int)) := (blk_cell Kg1_3.out 2).trans rfl; have fg1_3 : w3.cell? ⟨g1, 3, none⟩ = some (.slice A d.length c) := (blk_cell Kg1_3.out 3).trans rfl; have fg3_0 : w3.cell? ⟨g3, 0, none⟩ = some (.int .i64 4) := (blk_cell Kg3_3.out 0).trans rfl; have fg3_1 : w3.cell? ⟨g3, 1, none⟩ = some (.int .i64 x) := (blk_cell Kg3_3.out 1).trans rfl; have fg3_2 : w3.cell? ⟨g3, 2, none⟩ = some (.int .i64 y) := (blk_cell Kg3_3.out 2).trans rfl; have fg3_3 : w3.cell? ⟨g3, 3, none⟩ = some (.int .i64 wd) := (blk_cell Kg3_3.out 3).trans rfl; have fg3_4 : w3.cell? ⟨g3, 4, none⟩ = some (.int .i64 hg) := (blk_cell Kg3_3.out 4).trans rfl; clear hbox hb hg_) | (go_at_call 59; (with_reducible refine (impl_isBoxOn.calls a b (pix.length : Int) A c d x y wd hg _ w3 (Kd.C_below HR.out HB3.out) HC.out E2.out).mono ?_); rintro e w4 ⟨rfl, hb_⟩; have HB4 := mk (below_then HB3.out HB3.out.size hb_); have Kg1_4 := mk (blk_below Kg1_3.out hb_); have eg1_4_2 : w4.cell? ⟨g1, 2, none⟩ = some (.int .i64 (pix.length : Int)) := (blk_cell Kg1_4.out 2).trans rfl; have Kg3_4 := mk (blk_below Kg3_3.out hb_); have eg3_4_5 : w4.cell? ⟨g3, 5, none⟩ = some (.slice A3 pix.length c3) := (blk_cell Kg3_4.out 5).trans rfl; have Kg2_4 := mk (blk_below Kg2_3.out hb_); clear hb_) | (go_at_call 63; (with_reducible refine (impl_areBytes.calls A3 c3 pix _ w4 (Kd.C_below HR3.out HB4.out) HC3.out E3.out).mono ?_); rintro e w5 ⟨rfl, hd_⟩; have hb_ := hd_.below; have HB5 := mk (below_then HB4.out HB4.out.size hb_); have Kg2_5 := mk (blk_below Kg2_4.out hb_); have eg2_5_0 : w5.cell? ⟨g2, 0, none⟩ = some (.int .i64 0) := (blk_cell Kg2_5.out 0).trans rfl; have eg2_5_1 : w5.cell? ⟨g2, 1, none⟩ = some (.int .i64 0) := (blk_cell Kg2_5.out 1).trans rfl; have eg2_5_2 : w5.cell? ⟨g2, 2, none⟩ = some (.int .i64 0) := (blk_cell Kg2_5.out 2).trans rfl; have eg2_5_3 : w5.cell? ⟨g2, 3, none⟩ = some (.slice none 0 0) := (blk_cell Kg2_5.out 3).trans rfl; have yg2_5_0 := blk_frozen Kg2_5.out 0; have yg2_5_1 := blk_frozen Kg2_5.out 1; have yg2_5_2 := blk_frozen Kg2_5.out 2; have yg2_5_3 := blk_frozen Kg2_5.out 3; clear hd_ hb_))
 refine bodyPost_ret (results_ct rfl _ _ g2 28 #[.int .i64 0, .int .i64 0, .int .i64 0, .slice none 0 0] (0, 0) _ rfl (by
  refine blk_put (cs := #[.int .i64 0, .int .i64 0, .int .i64 0, .slice none 0 0]) ?_ 3 _ rfl
  refine blk_put (cs := #[.int .i64 0, .int .i64 0, .int .i64 0, .slice none 0 0]) ?_ 2 _ rfl
  refine blk_put (cs := #[.int .i64 0, .int .i64 0, .int .i64 0, .slice none 0 0]) ?_ 1 _ rfl
  refine blk_put (cs := #[.int .i64 0, .int .i64 0, .int .i64 0, .slice none 0 0]) ?_ 0 _ rfl
  exact Kg2_5.out
  ) hu rfl (by kernel_rfl)) rfl ?_
 have G2 := Gg2.out
 exact ⟨_, rfl, Kd.R_nil _ _ _ _ _, below_set (below_set (below_set (below_set HB5.out (by omega)) (by omega)) (by omega)) (by omega)⟩
set_option maxHeartbeats 4000000 in
set_option maxRecDepth 100000 in
theorem step4_yes (a b : Nat) (A : Option Addr) (c : Nat) (d : List Int) (x y wd hg : Nat) (A3 : Option Addr) (c3 : Nat) (pix : List Int) (w : World) (hr0_3 : Kd.C (Kd.int .i64) w A d.length d) (hc0_3 : d.length ≤ c) (hr3 : Kd.C (Kd.int .i64) w A3 pix.length pix) (hc3 : pix.length ≤ c3) (hv1 : validI a b (pix.length : Int) d = true) (hv2 : boxOn a b x y wd hg = true) (hv4 : pix.all byteI = true) :
  Calls Try.prog 45 #[.agg #[.int .i64 (a : Int), .int .i64 (b : Int), .int .i64 (pix.length : Int), .slice A d.length c], .agg #[.int .i64 4, .int .i64 (x : Int), .int .i64 (y : Int), .int .i64 (wd : Int), .int .i64 (hg : Int), .slice A3 pix.length c3]] w fun e w' => ∃ v3_ : Value, e = .returned (.tuple #[.agg #[.int .i64 (a : Int), .int .i64 (b : Int), .int .i64 (pix.length : Int), v3_], .bool true]) ∧ Kd.R (Kd.int .i64) 3 w' w.heap.size (fun _ => True) v3_ (imgD (fillPx a (pix.length : Int) d x y wd hg pix) a b) ∧ Below w.heap.size w w' := by
 have HC := mk hc0_3
 have HR := mk hr0_3
 have HC3 := mk hc3
 have HR3 := mk hr3
 have HB0 := mk (Below.refl w.heap.size w)
 have HV := mk hv1
 have hu := Try.underlying28
 have hm := hr3.2.1
 clear hr0_3 hc0_3 hr3 hc3
 have E2 := mk (impl_isBoxOn_eq hv1 x y wd hg)
 rw [hv2] at E2
 have E3 := mk (areBytesI_eq pix)
 rw [hv4] at E3
 have hs := ((validI_iff a b pix.length d).1 hv1).1
 have hbx := (boxOn_iff a b x y wd hg).1 hv2
 have HPL := mk (show ∀ i j, i < a → j < b → ((fillPx a (pix.length : Int) d x y wd hg pix) i j).length ≤ 4 from fun i j hi hj => by
  unfold fillPx
  split
  ·omega
  exact pxAt_le hv1 (by omega) (by omega))
 clear hv1 hv2 hv4
 go_enter Try.func45, Try.ntmps45
 go_wp2_with (first | ((with_reducible refine gate_dst (N := 2) rfl ?_); refine box_event (by rfl) (N := 2) (by rfl) (cs := #[.int .i64 (a : Int), .int .i64 (b : Int), .int .i64 (pix.length : Int), .slice A d.length c]) (t := 28) (by go_simp; done) ?_; intro g1 hg_ w1 hbox hb; have HB1 := mk (below_then HB0.out HB0.out.size hb); have Kg1_1 := mk hbox; clear hbox hb hg_) | ((with_reducible refine gate_dst (N := 3) rfl ?_); refine box_event (by rfl) (N := 3) (by rfl) (cs := #[.int .i64 4, .int .i64 (x : Int), .int .i64 (y : Int), .int .i64 (wd : Int), .int .i64 (hg : Int), .slice A3 pix.length c3]) (t := 43) (by go_simp; done) ?_; intro g3 hg_ w2 hbox hb; have HB2 := mk (below_then HB1.out HB1.out.size hb); have Kg1_2 := mk (blk_below Kg1_1.out hb); have Kg3_2 := mk hbox; clear hbox hb hg_) | ((with_reducible refine gate_dst (N := 4) rfl ?_); refine box_event (by rfl) (N := 4) (by rfl) (cs := #[.int .i64 0, .int .i64 0, .int .i64 0, .slice none 0 0]) (t := 28) (by go_simp; done) ?_; intro g2 hg_ w3 hbox hb; have HB3 := mk (below_then HB2.out HB2.out.size hb); have Gg2 := mk (show w.heap.size ≤ g2 from by rw [hg_]; exact HB2.out.size); have Kg1_3 := mk (blk_below Kg1_2.out hb); have Kg3_3 := mk (blk_below Kg3_2.out hb); have Kg2_3 := mk hbox; have fg1_0 : w3.cell? ⟨g1, 0, none⟩ = some (.int .i64 (a : Int)) := (blk_cell Kg1_3.out 0).trans rfl; have fg1_1 : w3.cell? ⟨g1, 1, none⟩ = some (.int .i64 (b : Int)) := (blk_cell Kg1_3.out 1).trans rfl; have fg1_2 : w3.cell? ⟨g1, 2, none⟩ = some (.int .i64 (pix.length : Int)) := (blk_cell Kg1_3.out 2).trans rfl; have fg1_3 : w3.cell? ⟨g1, 3, none⟩ = some (.slice A d.length c) := (blk_cell Kg1_3.out 3).trans rfl; have fg3_0 : w3.cell? ⟨g3, 0, none⟩ = some (.int .i64 4) := (blk_cell Kg3_3.out 0).trans rfl; have fg3_1 : w3.cell? ⟨g3, 1, none⟩ = some (.int .i64 (x : Int)) := (blk_cell Kg3_3.out 1).trans rfl; have fg3_2 : w3.cell? ⟨g3, 2, none⟩ = some (.int .i64 (y : Int)) := (blk_cell Kg3_3.out 2).trans rfl; have fg3_3 : w3.cell? ⟨g3, 3, none⟩ = some (.int .i64 (wd : Int)) := (blk_cell Kg3_3.out 3).trans rfl; have fg3_4 : w3.cell? ⟨g3, 4, none⟩ = some (.int .i64 (hg : Int)) := (blk_cell Kg3_3.out 4).trans rfl; clear hbox hb hg_) | (go_at_call 59; (with_reducible refine (impl_isBoxOn.calls a b (pix.length : Int) A c d x y wd hg _ w3 (Kd.C_below HR.out HB3.out) HC.out E2.out).mono ?_); rintro e w4 ⟨rfl, hb_⟩; have HB4 := mk (below_then HB3.out HB3.out.size hb_); have Kg1_4 := mk (blk_below Kg1_3.out hb_); have eg1_4_2 : w4.cell? ⟨g1, 2, none⟩ = some (.int .i64 (pix.length : Int)) := (blk_cell Kg1_4.out 2).trans rfl; have Kg3_4 := mk (blk_below Kg3_3.out hb_); have eg3_4_5 : w4.cell? ⟨g3, 5, none⟩ = some (.slice A3 pix.length c3) := (blk_cell Kg3_4.out 5).trans rfl; have Kg2_4 := mk (blk_below Kg2_3.out hb_); clear hb_) | (go_at_call 63; (with_reducible refine (impl_areBytes.calls A3 c3 pix _ w4 (Kd.C_below HR3.out HB4.out) HC3.out E3.out).mono ?_); rintro e w5 ⟨rfl, hd_⟩; have hb_ := hd_.below; have HB5 := mk (below_then HB4.out HB4.out.size hb_); have Kg1_5 := mk (blk_below Kg1_4.out hb_); have eg1_5_0 : w5.cell? ⟨g1, 0, none⟩ = some (.int .i64 (a : Int)) := (blk_cell Kg1_5.out 0).trans rfl; have eg1_5_1 : w5.cell? ⟨g1, 1, none⟩ = some (.int .i64 (b : Int)) := (blk_cell Kg1_5.out 1).trans rfl; have eg1_5_2 : w5.cell? ⟨g1, 2, none⟩ = some (.int .i64 (pix.length : Int)) := (blk_cell Kg1_5.out 2).trans rfl; have Kg3_5 := mk (blk_below Kg3_4.out hb_); have Kg2_5 := mk (blk_below Kg2_4.out hb_); clear hd_ hb_) | (go_at_call 53; refine (imageBy_calls 80 #[.pointer (some ⟨g3, 0, none⟩), .pointer (some ⟨g1, 0, none⟩)] (fillPx a (pix.length : Int) d x y wd hg pix) a b (pix.length : Int) (by omega) (by omega) w5 (enters_of Try.func80 (by kernel_rfl) rfl) HPL.out (fun W i j hi hj hW => fill1_calls a b pix.length A c d HV.out HC.out 4 x y wd hg (by omega) (by omega) (by omega) (by omega) A3 c3 pix HC3.out i j (by omega) (by omega) g3 W (blk_below Kg3_5.out hW) g1 (blk_below Kg1_5.out hW) (Kd.C_below (Kd.C_below HR.out HB5.out) hW) (Kd.C_below (Kd.C_below HR3.out HB5.out) hW))).mono ?_; rintro e w6 ⟨v6, rfl, hr6, hb_⟩; have HB6 := mk (below_then HB5.out HB5.out.size hb_); have Kg2_6 := mk (blk_below Kg2_5.out hb_); have eg2_6_0 : w6.cell? ⟨g2, 0, none⟩ = some (.int .i64 0) := (blk_cell Kg2_6.out 0).trans rfl; have eg2_6_1 : w6.cell? ⟨g2, 1, none⟩ = some (.int .i64 0) := (blk_cell Kg2_6.out 1).trans rfl; have eg2_6_2 : w6.cell? ⟨g2, 2, none⟩ = some (.int .i64 0) := (blk_cell Kg2_6.out 2).trans rfl; have eg2_6_3 : w6.cell? ⟨g2, 3, none⟩ = some (.slice none 0 0) := (blk_cell Kg2_6.out 3).trans rfl; have yg2_6_0 := blk_frozen Kg2_6.out 0; have yg2_6_1 := blk_frozen Kg2_6.out 1; have yg2_6_2 := blk_frozen Kg2_6.out 2; have yg2_6_3 := blk_frozen Kg2_6.out 3; have HR6 := mk (Kd.R_lower hr6 HB5.out.size); obtain ⟨A6, c6, ev6⟩ := Kd.R_slice HR6.out; subst ev6; clear hr6 hb_))
 have G2 := Gg2.out
 have RR := Kd.R_types HR6.out Kg2_6.out (by decide)
 refine bodyPost_ret (results_ct rfl _ _ g2 28 #[.int .i64 (a : Int), .int .i64 (b : Int), .int .i64 (pix.length : Int), .slice A6 (imgD (fillPx a (pix.length : Int) d x y wd hg pix) a b).length c6] (0, 0) _ rfl (by
  refine blk_put (cs := #[.int .i64 (a : Int), .int .i64 (b : Int), .int .i64 (pix.length : Int), .slice none 0 0]) ?_ 3 _ rfl
  refine blk_put (cs := #[.int .i64 (a : Int), .int .i64 (b : Int), .int .i64 0, .slice none 0 0]) ?_ 2 _ rfl
  refine blk_put (cs := #[.int .i64 (a : Int), .int .i64 0, .int .i64 0, .slice none 0 0]) ?_ 1 _ rfl
  refine blk_put (cs := #[.int .i64 0, .int .i64 0, .int .i64 0, .slice none 0 0]) ?_ 0 _ rfl
  exact Kg2_6.out
  ) hu rfl (by kernel_rfl)) rfl ?_
 exact ⟨_, rfl, Kd.R_mono (Kd.R_far (Kd.R_far (Kd.R_far (Kd.R_far RR (fun k hk => hk.2) _) (fun k hk => hk.2) _) (fun k hk => hk.2) _) (fun k hk => hk.2) _) (fun _ _ => trivial), below_set (below_set (below_set (below_set HB6.out (by omega)) (by omega)) (by omega)) (by omega)⟩
set_option maxHeartbeats 4000000 in
set_option maxRecDepth 100000 in
theorem step5 (a b p : Int) (A : Option Addr) (c : Nat) (d : List Int) (kind x y wd hg : Int) (A3 : Option Addr) (c3 : Nat) (pix : List Int) (w : World) (hr0_3 : Kd.C (Kd.int .i64) w A d.length d) (hc0_3 : d.length ≤ c) (hr3 : Kd.C (Kd.int .i64) w A3 pix.length pix) (hc3 : pix.length ≤ c3) (hv1 : validI a b p d = true) (h0 : ¬ kind = 0) (h1 : ¬ kind = 1) (h2 : ¬ kind = 2) (h3 : ¬ kind = 3) (h4 : ¬ kind = 4) :
  Calls Try.prog 45 #[.agg #[.int .i64 a, .int .i64 b, .int .i64 p, .slice A d.length c], .agg #[.int .i64 kind, .int .i64 x, .int .i64 y, .int .i64 wd, .int .i64 hg, .slice A3 pix.length c3]] w fun e w' => ∃ v3_ : Value, e = .returned (.tuple #[.agg #[.int .i64 0, .int .i64 0, .int .i64 0, v3_], .bool false]) ∧ Kd.R (Kd.int .i64) 3 w' w.heap.size (fun _ => True) v3_ [] ∧ Below w.heap.size w w' := by
 have HB0 := mk (Below.refl w.heap.size w)
 have hu := Try.underlying28
 clear hr0_3 hc0_3 hr3 hc3
 have k0a : (kind == 0) = false := by simpa using h0
 have k1a : (kind == 1) = false := by simpa using h1
 have k2a : (kind == 2) = false := by simpa using h2
 have k3a : (kind == 3) = false := by simpa using h3
 have k4a : (kind == 4) = false := by simpa using h4
 clear hv1 h0 h1 h2 h3 h4
 go_enter Try.func45, Try.ntmps45
 go_wp2_with (first | ((with_reducible refine gate_dst (N := 2) rfl ?_); refine box_event (by rfl) (N := 2) (by rfl) (cs := #[.int .i64 a, .int .i64 b, .int .i64 p, .slice A d.length c]) (t := 28) (by go_simp; done) ?_; intro g1 hg_ w1 hbox hb; have HB1 := mk (below_then HB0.out HB0.out.size hb); clear hbox hb hg_) | ((with_reducible refine gate_dst (N := 3) rfl ?_); refine box_event (by rfl) (N := 3) (by rfl) (cs := #[.int .i64 kind, .int .i64 x, .int .i64 y, .int .i64 wd, .int .i64 hg, .slice A3 pix.length c3]) (t := 43) (by go_simp; done) ?_; intro g3 hg_ w2 hbox hb; have HB2 := mk (below_then HB1.out HB1.out.size hb); have Kg3_2 := mk hbox; clear hbox hb hg_) | ((with_reducible refine gate_dst (N := 4) rfl ?_); refine box_event (by rfl) (N := 4) (by rfl) (cs := #[.int .i64 0, .int .i64 0, .int .i64 0, .slice none 0 0]) (t := 28) (by go_simp; done) ?_; intro g2 hg_ w3 hbox hb; have HB3 := mk (below_then HB2.out HB2.out.size hb); have Gg2 := mk (show w.heap.size ≤ g2 from by rw [hg_]; exact HB2.out.size); have Kg3_3 := mk (blk_below Kg3_2.out hb); have Kg2_3 := mk hbox; have fg3_0 : w3.cell? ⟨g3, 0, none⟩ = some (.int .i64 kind) := (blk_cell Kg3_3.out 0).trans rfl; have fg2_0 : w3.cell? ⟨g2, 0, none⟩ = some (.int .i64 0) := (blk_cell Kg2_3.out 0).trans rfl; have fg2_1 : w3.cell? ⟨g2, 1, none⟩ = some (.int .i64 0) := (blk_cell Kg2_3.out 1).trans rfl; have fg2_2 : w3.cell? ⟨g2, 2, none⟩ = some (.int .i64 0) := (blk_cell Kg2_3.out 2).trans rfl; have fg2_3 : w3.cell? ⟨g2, 3, none⟩ = some (.slice none 0 0) := (blk_cell Kg2_3.out 3).trans rfl; have yg2_0 := blk_frozen Kg2_3.out 0; have yg2_1 := blk_frozen Kg2_3.out 1; have yg2_2 := blk_frozen Kg2_3.out 2; have yg2_3 := blk_frozen Kg2_3.out 3; clear hbox hb hg_))
 refine bodyPost_ret (results_ct rfl _ _ g2 28 #[.int .i64 0, .int .i64 0, .int .i64 0, .slice none 0 0] (0, 0) _ rfl (by
  refine blk_put (cs := #[.int .i64 0, .int .i64 0, .int .i64 0, .slice none 0 0]) ?_ 3 _ rfl
  refine blk_put (cs := #[.int .i64 0, .int .i64 0, .int .i64 0, .slice none 0 0]) ?_ 2 _ rfl
  refine blk_put (cs := #[.int .i64 0, .int .i64 0, .int .i64 0, .slice none 0 0]) ?_ 1 _ rfl
  refine blk_put (cs := #[.int .i64 0, .int .i64 0, .int .i64 0, .slice none 0 0]) ?_ 0 _ rfl
  exact Kg2_3.out
  ) hu rfl (by kernel_rfl)) rfl ?_
 have G2 := Gg2.out
 exact ⟨_, rfl, Kd.R_nil _ _ _ _ _, below_set (below_set (below_set (below_set HB3.out (by omega)) (by omega)) (by omega)) (by omega)⟩
theorem impl_doStep.calls (a b p : Int) (A : Option Addr) (c : Nat) (d : List Int) (kind x y wd hg : Int) (A3 : Option Addr) (c3 : Nat) (pix : List Int) (r1 r2 r3 : Int) (r4 : List Int) (r5 : Bool) (w : World) (hr0_3 : Kd.C (Kd.int .i64) w A d.length d) (hc0_3 : d.length ≤ c) (hr1_5 : Kd.C (Kd.int .i64) w A3 pix.length pix) (hc1_5 : pix.length ≤ c3) (h : impl_doStep.f a b p d kind x y wd hg pix = some (r1, r2, r3, r4, r5)) :
  Calls Try.prog 45 #[.agg #[.int .i64 a, .int .i64 b, .int .i64 p, .slice A d.length c], .agg #[.int .i64 kind, .int .i64 x, .int .i64 y, .int .i64 wd, .int .i64 hg, .slice A3 pix.length c3]] w fun e w' => ∃ v3_ : Value, e = .returned (.tuple #[.agg #[.int .i64 r1, .int .i64 r2, .int .i64 r3, v3_], .bool r5]) ∧ Kd.R (Kd.int .i64) 3 w' w.heap.size (fun _ => True) v3_ r4 ∧ Below w.heap.size w w' := by
 unfold impl_doStep.f at h
 by_cases hv1 : validI a b p d = true
 ·rw [if_pos hv1] at h
  have hv := Option.some.inj h
  clear h
  unfold doStepV at hv
  by_cases h0 : kind = 0
  ·subst h0
   rw [if_pos rfl] at hv
   obtain ⟨rfl, rfl, rfl, rfl, rfl⟩ : a = r1 ∧ b = r2 ∧ p = r3 ∧ imgD (mirPx a p d) a.toNat b.toNat = r4 ∧ true = r5 := by simpa using hv
   exact step0 a b p A c d x y wd hg A3 c3 pix w hr0_3 hc0_3 hr1_5 hc1_5 hv1
  rw [if_neg h0] at hv
  by_cases h1 : kind = 1
  ·subst h1
   rw [if_pos rfl] at hv
   obtain ⟨rfl, rfl, rfl, rfl, rfl⟩ : b = r1 ∧ a = r2 ∧ p = r3 ∧ imgD (turnPx a b p d) b.toNat a.toNat = r4 ∧ true = r5 := by simpa using hv
   exact step1 a b p A c d x y wd hg A3 c3 pix w hr0_3 hc0_3 hr1_5 hc1_5 hv1
  rw [if_neg h1] at hv
  by_cases h2 : kind = 2
  ·subst h2
   rw [if_pos rfl] at hv
   obtain ⟨rfl, rfl, rfl, rfl, rfl⟩ : a = r1 ∧ b = r2 ∧ p = r3 ∧ invD d = r4 ∧ true = r5 := by simpa using hv
   exact step2 a b p A c d x y wd hg A3 c3 pix w hr0_3 hc0_3 hr1_5 hc1_5 hv1
  rw [if_neg h2] at hv
  by_cases h3 : kind = 3
  ·subst h3
   rw [if_pos rfl] at hv
   cases hv2 : boxOn a b x y wd hg with
   | true =>
    rw [hv2, if_pos rfl] at hv
    obtain ⟨rfl, rfl, rfl, rfl, rfl⟩ : wd = r1 ∧ hg = r2 ∧ p = r3 ∧ imgD (cropPx a p d x.toNat y.toNat) wd.toNat hg.toNat = r4 ∧ true = r5 := by simpa using hv
    exact step3_yes a b p A c d x y wd hg A3 c3 pix w hr0_3 hc0_3 hr1_5 hc1_5 hv1 hv2
   | false =>
    rw [hv2, if_neg (by simp)] at hv
    obtain ⟨rfl, rfl, rfl, rfl, rfl⟩ : 0 = r1 ∧ 0 = r2 ∧ 0 = r3 ∧ [] = r4 ∧ false = r5 := by simpa using hv
    exact step3_no a b p A c d x y wd hg A3 c3 pix w hr0_3 hc0_3 hr1_5 hc1_5 hv1 hv2
  rw [if_neg h3] at hv
  by_cases h4 : kind = 4
  ·subst h4
   rw [if_pos rfl] at hv
   cases hv2 : boxOn a b x y wd hg with
   | false =>
    rw [hv2, if_neg (by simp)] at hv
    obtain ⟨rfl, rfl, rfl, rfl, rfl⟩ : 0 = r1 ∧ 0 = r2 ∧ 0 = r3 ∧ [] = r4 ∧ false = r5 := by simpa using hv
    exact step4_no1 a b p A c d x y wd hg A3 c3 pix w hr0_3 hc0_3 hr1_5 hc1_5 hv1 hv2
   | true =>
    by_cases hv3 : (pix.length : Int) = p
    ·cases hv4 : pix.all byteI with
     | false =>
      rw [hv2, hv4, if_neg (by simp)] at hv
      obtain ⟨rfl, rfl, rfl, rfl, rfl⟩ : 0 = r1 ∧ 0 = r2 ∧ 0 = r3 ∧ [] = r4 ∧ false = r5 := by simpa using hv
      subst hv3
      exact step4_no3 a b A c d x y wd hg A3 c3 pix w hr0_3 hc0_3 hr1_5 hc1_5 hv1 hv2 hv4
     | true =>
      rw [hv2, hv4, if_pos ⟨rfl, hv3, rfl⟩] at hv
      have hs := ((validI_iff a b p d).1 hv1).1
      have hbx := (boxOn_iff a b x y wd hg).1 hv2
      subst hv3
      obtain ⟨an, rfl⟩ := Int.eq_ofNat_of_zero_le (show 0 ≤ a by omega)
      obtain ⟨bn, rfl⟩ := Int.eq_ofNat_of_zero_le (show 0 ≤ b by omega)
      obtain ⟨xn, rfl⟩ := Int.eq_ofNat_of_zero_le (show 0 ≤ x by omega)
      obtain ⟨yn, rfl⟩ := Int.eq_ofNat_of_zero_le (show 0 ≤ y by omega)
      obtain ⟨wn, rfl⟩ := Int.eq_ofNat_of_zero_le (show 0 ≤ wd by omega)
      obtain ⟨hn, rfl⟩ := Int.eq_ofNat_of_zero_le (show 0 ≤ hg by omega)
      obtain ⟨rfl, rfl, rfl, rfl, rfl⟩ : (an : Int) = r1 ∧ (bn : Int) = r2 ∧ (pix.length : Int) = r3 ∧ imgD (fillPx an (pix.length : Int) d xn yn wn hn pix) an bn = r4 ∧ true = r5 := by simpa using hv
      exact step4_yes an bn A c d xn yn wn hn A3 c3 pix w hr0_3 hc0_3 hr1_5 hc1_5 hv1 hv2 hv4
    rw [if_neg (fun h => hv3 h.2.1)] at hv
    obtain ⟨rfl, rfl, rfl, rfl, rfl⟩ : 0 = r1 ∧ 0 = r2 ∧ 0 = r3 ∧ [] = r4 ∧ false = r5 := by simpa using hv
    exact step4_no2 a b p A c d x y wd hg A3 c3 pix w hr0_3 hc0_3 hr1_5 hc1_5 hv1 hv2 hv3
  rw [if_neg h4] at hv
  obtain ⟨rfl, rfl, rfl, rfl, rfl⟩ : 0 = r1 ∧ 0 = r2 ∧ 0 = r3 ∧ [] = r4 ∧ false = r5 := by simpa using hv
  exact step5 a b p A c d kind x y wd hg A3 c3 pix w hr0_3 hc0_3 hr1_5 hc1_5 hv1 h0 h1 h2 h3 h4
 rw [if_neg hv1] at h; cases h
end Go.Proofs.Ytgccpcnakkioiaa.Q

namespace Go.Proofs.Ytgccpcnakkioiaa.Q
open Go.RowKit Go.Proofs.YtgccpcnakkioiaaW.PrintWords Go.Proofs.YtgccpcnakkioiaaW.PrintLast Go.Proofs.YtgccpcnakkioiaaW.PrintMore
open Go.Proofs.YtgccpcnakkioiaaW.PrintWords.Aside0 (mk)
attribute [local go_sem] max2_int min2_int max_two min_two max_three min_three max_four min_four
set_option linter.unusedVariables false
set_option linter.unusedSimpArgs false
mutual
def impl_RunSteps.j0 : Nat → List S43 → Bool → Int → Int → Int → List Int → Option (Int × Int × Int × List Int × Int)
 | 0, _, _, _, _, _, _ => none
 | k + 1, x1, x18, xz11, xz12, xz13, xz14 => if x18 = true then (some (0, 0, 0, ([] : List Int), (-1))) else ((impl_copyImage.f xz11 xz12 xz13 xz14).bind fun btz0 => (impl_RunSteps.l0 k x1 x1 (x1.length : Int) 0 btz0.1 btz0.2.1 btz0.2.2.1 btz0.2.2.2))
def impl_RunSteps.l0 : Nat → List S43 → List S43 → Int → Int → Int → Int → Int → List Int → Option (Int × Int × Int × List Int × Int)
 | 0, _, _, _, _, _, _, _, _ => none
 | k + 1, x1, x22, x23, x24, xz7, xz8, xz9, xz10 => if x24 < x23 then (if 0 ≤ x24 then (if x24 < (x22.length : Int) then ((impl_doStep.f xz7 xz8 xz9 xz10 ((rd_T43 x22 x24).f0) ((rd_T43 x22 x24).f1.f0) ((rd_T43 x22 x24).f1.f1) ((rd_T43 x22 x24).f1.f2) ((rd_T43 x22 x24).f1.f3) ((rd_T43 x22 x24).f2)).bind fun btz1 => (if btz1.2.2.2.2 = true then (impl_RunSteps.l0 k x1 x22 x23 (wrap64 (x24 + 1)) btz1.1 btz1.2.1 btz1.2.2.1 btz1.2.2.2.1) else (some (xz7, xz8, xz9, xz10, x24)))) else none) else none) else (some (xz7, xz8, xz9, xz10, (x1.length : Int)))
end
def impl_RunSteps.f (k : Nat) (a0_0 : Int) (a0_1 : Int) (a0_2 : Int) (l0_3 : List Int) (l1 : List S43) : Option (Int × Int × Int × List Int × Int) := (impl_isImage.f a0_0 a0_1 a0_2 l0_3).bind fun tz5 => (if tz5 = true then (impl_RunSteps.j0 k l1 (decide ((l1.length : Int) > 12)) a0_0 a0_1 a0_2 l0_3) else (impl_RunSteps.j0 k l1 true a0_0 a0_1 a0_2 l0_3))
theorem impl_RunSteps.mono_l : ∀ k, (∀ y0 y1 y2 y3 y4 y5, LeO (impl_RunSteps.j0 k y0 y1 y2 y3 y4 y5) (impl_RunSteps.j0 (k + 1) y0 y1 y2 y3 y4 y5)) ∧ (∀ y0 y1 y2 y3 y4 y5 y6 y7, LeO (impl_RunSteps.l0 k y0 y1 y2 y3 y4 y5 y6 y7) (impl_RunSteps.l0 (k + 1) y0 y1 y2 y3 y4 y5 y6 y7))
 | 0 => ⟨fun _ _ _ _ _ _ r h => by simp [impl_RunSteps.j0] at h, fun _ _ _ _ _ _ _ _ r h => by simp [impl_RunSteps.l0] at h⟩
 | k + 1 => by
  obtain ⟨ih0, ih1⟩ := impl_RunSteps.mono_l k
  refine ⟨?_, ?_⟩
  ·intro y0 y1 y2 y3 y4 y5
   unfold impl_RunSteps.j0
   repeat' first | (with_reducible exact ih1 _ _ _ _ _ _ _ _) | (with_reducible exact LeO.refl _) | (with_reducible refine LeO.ite ?_ ?_) | (with_reducible refine LeO.bind ?_ (fun _ => ?_))
  intro y0 y1 y2 y3 y4 y5 y6 y7
  unfold impl_RunSteps.l0
  repeat' first | (with_reducible exact ih1 _ _ _ _ _ _ _ _) | (with_reducible exact LeO.refl _) | (with_reducible refine LeO.ite ?_ ?_) | (with_reducible refine LeO.bind ?_ (fun _ => ?_))
theorem impl_RunSteps.mono : ∀ a0 a1 a2 a3 a4 k, LeO (impl_RunSteps.f k a0 a1 a2 a3 a4) (impl_RunSteps.f (k + 1) a0 a1 a2 a3 a4) := by
 intro a0 a1 a2 a3 a4 k
 obtain ⟨ih0, ih1⟩ := impl_RunSteps.mono_l k
 unfold impl_RunSteps.f
 repeat' first | (with_reducible exact ih0 _ _ _ _ _ _) | (with_reducible exact LeO.refl _) | (with_reducible refine LeO.ite ?_ ?_) | (with_reducible refine LeO.bind ?_ (fun _ => ?_))
set_option maxHeartbeats 8000000 in
set_option maxRecDepth 100000 in
theorem impl_RunSteps.calls (k : Nat) (a0_0 : Int) (a0_1 : Int) (a0_2 : Int) (A0_3 : Option Addr) (c0_3 : Nat) (l0_3 : List Int) (A1 : Option Addr) (c1 : Nat) (l1 : List S43) (r1 : Int) (r2 : Int) (r3 : Int) (r4 : List Int) (r5 : Int) (w : World) (hr0_3 : Kd.C (Kd.int .i64) w A0_3 l0_3.length l0_3) (hc0_3 : l0_3.length ≤ c0_3) (hr1 : Kd.C k43 w A1 l1.length l1) (hc1 : l1.length ≤ c1) (h : impl_RunSteps.f k a0_0 a0_1 a0_2 l0_3 l1 = some (r1, r2, r3, r4, r5)) :
  Calls Try.prog 15 #[.agg #[.int .i64 a0_0, .int .i64 a0_1, .int .i64 a0_2, .slice A0_3 l0_3.length c0_3], .slice A1 l1.length c1] w fun e w' => ∃ v3_ : Value, e = .returned (.tuple #[.agg #[.int .i64 r1, .int .i64 r2, .int .i64 r3, v3_], .int .i64 r5]) ∧ Kd.R (Kd.int .i64) 3 w' w.heap.size (fun _ => True) v3_ r4 ∧ Below w.heap.size w w' := by
 have hu28 := Try.underlying28
 have hu43 := Try.underlying43
 have HR0_3 := mk hr0_3
 have HC0_3 := mk hc0_3
 clear hr0_3 hc0_3
 have HR1 := mk hr1
 have HC1 := mk hc1
 clear hr1 hc1
 have HB := mk (Below.refl w.heap.size w)
 have H : ((impl_isImage.f a0_0 a0_1 a0_2 l0_3).bind fun tz5 => (if tz5 = true then (impl_RunSteps.j0 k l1 (decide ((l1.length : Int) > 12)) a0_0 a0_1 a0_2 l0_3) else (impl_RunSteps.j0 k l1 true a0_0 a0_1 a0_2 l0_3))) = some (r1, r2, r3, r4, r5) := h
 clear h
 have HC3 := mk H
 clear H
 go_enter Try.func15, Try.ntmps15
 go_upto_region 1 with (first | ((with_reducible refine gate_dst (N := 2) rfl ?_); (try (refine gate_guard (by rfl) ?_; dsimp only)); refine box_event (by rfl) (N := 2) (by rfl) (cs := #[.int .i64 a0_0, .int .i64 a0_1, .int .i64 a0_2, .slice A0_3 l0_3.length c0_3]) (t := 28) (by go_simp; done) ?_; intro gbz4 hg w4 hbox hb; replace HB := mk (below_step HB.out hb); have BKz2 := mk (hbox); clear hb hbox hg) | ((with_reducible refine gate_dst (N := 4) rfl ?_); (try (refine gate_guard (by rfl) ?_; dsimp only)); refine box_event (by rfl) (N := 4) (by rfl) (cs := #[.int .i64 0, .int .i64 0, .int .i64 0, .slice none 0 0]) (t := 28) (by go_simp; done) ?_; intro gbz2 hg w5 hbox hb; have BKz0 := mk (hbox); have GEz1 := mk ((by rw [hg]; exact (below_size HB.out) : w.heap.size ≤ gbz2)); replace HB := mk (below_step HB.out hb); have NBz12 := mk ((by rw [hg]; exact Nat.ne_of_lt (blk_lt BKz2.out) : gbz4 ≠ gbz2)); have NBz13 := mk ((by rw [hg]; exact Nat.ne_of_gt (blk_lt BKz2.out) : gbz2 ≠ gbz4)); replace BKz2 := mk (blk_below BKz2.out hb); clear hb hbox hg))
 go_cut [18] (fun v18 wc => ∃ (kq : Nat) (x18_2 : Bool), v18 = .bool x18_2 ∧ Aside0 (impl_RunSteps.j0 kq l1 x18_2 a0_0 a0_1 a0_2 l0_3 = some (r1, r2, r3, r4, r5)) ∧ Aside0 (kq ≤ k) ∧ Aside0 (wc.heap[gbz4]? = some (.cells #[.int .i64 a0_0, .int .i64 a0_1, .int .i64 a0_2, (.slice A0_3 l0_3.length c0_3)] 28 (0, 0))) ∧ Aside0 (wc.heap[gbz2]? = some (.cells #[.int .i64 0, .int .i64 0, .int .i64 0, (.slice none 0 0)] 28 (0, 0))) ∧ Aside0 (Below w.heap.size w wc))
 case first =>
  have H := HC3.out
  clear HC3
  replace H := Option.bind_eq_some_iff.mp H
  obtain ⟨tz5, A60, H⟩ := H
  replace H : (if tz5 = true then (impl_RunSteps.j0 k l1 (decide ((l1.length : Int) > 12)) a0_0 a0_1 a0_2 l0_3) else (impl_RunSteps.j0 k l1 true a0_0 a0_1 a0_2 l0_3)) = some (r1, r2, r3, r4, r5) := H
  have A6 := mk A60
  clear A60
  by_cases c7 : tz5 = true
  ·subst c7
   have H1 : (impl_RunSteps.j0 k l1 (decide ((l1.length : Int) > 12)) a0_0 a0_1 a0_2 l0_3) = some (r1, r2, r3, r4, r5) := by rw [if_pos rfl] at H; exact H
   clear H
   have H := H1
   clear H1
   have H' := mk H
   clear H
   obtain ⟨hcz9_0, hcz9_1, hcz9_2, hcz9_3, -⟩ := c4 BKz2.out
   go_wp2_with (first | ((with_reducible refine gate_callee (f := 43) rfl ?_); refine goesL_ (some 12) rfl rfl Try.func43 (by kernel_rfl) rfl #[.agg #[.int .i64 a0_0, .int .i64 a0_1, .int .i64 a0_2, .slice A0_3 l0_3.length c0_3]] rfl (by (try simp only [List.map_toArray, List.map_cons, List.map_nil]); rfl) ?_; (with_reducible refine (impl_isImage.calls a0_0 a0_1 a0_2 _ _ l0_3 true _ ?side1 ?side2 A6.out).mono ?_); (case side1 => repeat (exact (Kd.C_below HR0_3.out HB.out))); (case side2 => exact HC0_3.out); rintro e w10 ⟨rfl, hb⟩; refine ⟨_, rfl, ?_⟩; replace BKz2 := mk (blk_below BKz2.out hb); replace BKz0 := mk (blk_below BKz0.out hb); replace HB := mk (below_step HB.out hb); (try clear hb)))
   go_meet
   case rel => exact ⟨_, (decide ((l1.length : Int) > 12)), (by rfl), H', ⟨by omega⟩, BKz2, BKz0, HB⟩
  replace c7 := Bool.eq_false_iff.mpr c7
  subst c7
  have H1 : (impl_RunSteps.j0 k l1 true a0_0 a0_1 a0_2 l0_3) = some (r1, r2, r3, r4, r5) := by rw [if_neg (show ¬ (false = true) by decide)] at H; exact H
  clear H
  have H := H1
  clear H1
  have H' := mk H
  clear H
  obtain ⟨hcz12_0, hcz12_1, hcz12_2, hcz12_3, -⟩ := c4 BKz2.out
  go_wp2_with (first | ((with_reducible refine gate_callee (f := 43) rfl ?_); refine goesL_ (some 12) rfl rfl Try.func43 (by kernel_rfl) rfl #[.agg #[.int .i64 a0_0, .int .i64 a0_1, .int .i64 a0_2, .slice A0_3 l0_3.length c0_3]] rfl (by (try simp only [List.map_toArray, List.map_cons, List.map_nil]); rfl) ?_; (with_reducible refine (impl_isImage.calls a0_0 a0_1 a0_2 _ _ l0_3 false _ ?side1 ?side2 A6.out).mono ?_); (case side1 => repeat (exact (Kd.C_below HR0_3.out HB.out))); (case side2 => exact HC0_3.out); rintro e w13 ⟨rfl, hb⟩; refine ⟨_, rfl, ?_⟩; replace BKz2 := mk (blk_below BKz2.out hb); replace BKz0 := mk (blk_below BKz0.out hb); replace HB := mk (below_step HB.out hb); (try clear hb)))
  go_meet
  case rel => exact ⟨_, (true), (by rfl), H', ⟨by omega⟩, BKz2, BKz0, HB⟩
 case rest =>
  clear HC3
  obtain ⟨kq, x18_2, rfl, HA, HJ2, BKz2, BKz0, HB⟩ := hcut
  cases kq with
  | zero => exact absurd HA.out (by simp [impl_RunSteps.j0])
  | succ kj2 =>
   have H := HA.out
   clear HA
   simp only [impl_RunSteps.j0] at H
   by_cases c14 : x18_2 = true
   ·subst c14
    have H1 : (some (0, 0, 0, ([] : List Int), (-1))) = some (r1, r2, r3, r4, r5) := by rw [if_pos rfl] at H; exact H
    clear H
    have H := H1
    clear H1
    simp only [Option.some.injEq, Prod.mk.injEq] at H
    obtain ⟨rfl, rfl, rfl, rfl, rfl⟩ := H
    obtain ⟨hcz16_0, hcz16_1, hcz16_2, hcz16_3, hfz16_0, hfz16_1, hfz16_2, hfz16_3⟩ := c4 BKz0.out
    go_wp2
    refine bodyPost_ret (results_ct rfl _ _ gbz2 28 #[.int .i64 0, .int .i64 0, .int .i64 0, .slice none 0 0] (0, 0) _ rfl (by refine blk_put (cs := #[.int .i64 0, .int .i64 0, .int .i64 0, .slice none 0 0]) ?_ 3 _ rfl; refine blk_put (cs := #[.int .i64 0, .int .i64 0, .int .i64 0, .slice none 0 0]) ?_ 2 _ rfl; refine blk_put (cs := #[.int .i64 0, .int .i64 0, .int .i64 0, .slice none 0 0]) ?_ 1 _ rfl; refine blk_put (cs := #[.int .i64 0, .int .i64 0, .int .i64 0, .slice none 0 0]) ?_ 0 _ rfl; exact BKz0.out) Try.underlying28 rfl (by kernel_rfl)) rfl ?_
    exact ⟨_, by rfl, by exact Kd.R_nil _ _ _ _ _, by repeat (with_reducible first | exact HB.out | refine below_set ?_ GEz1.out)⟩
   replace c14 := Bool.eq_false_iff.mpr c14
   subst c14
   have H1 : ((impl_copyImage.f a0_0 a0_1 a0_2 l0_3).bind fun btz0 => (impl_RunSteps.l0 kj2 l1 l1 (l1.length : Int) 0 btz0.1 btz0.2.1 btz0.2.2.1 btz0.2.2.2)) = some (r1, r2, r3, r4, r5) := by rw [if_neg (show ¬ (false = true) by decide)] at H; exact H
   clear H
   have H := H1
   clear H1
   replace H := Option.bind_eq_some_iff.mp H
   obtain ⟨⟨tz4, tz6, tz7, tz8⟩, A170, H⟩ := H
   replace H : (impl_RunSteps.l0 kj2 l1 l1 (l1.length : Int) 0 tz4 tz6 tz7 tz8) = some (r1, r2, r3, r4, r5) := H
   have A17 := mk A170
   clear A170
   have H' := mk H
   clear H
   obtain ⟨hcz19_0, hcz19_1, hcz19_2, hcz19_3, hfz19_0, hfz19_1, hfz19_2, hfz19_3⟩ := c4 BKz2.out
   go_wp2_with (first | ((with_reducible refine gate_callee (f := 44) rfl ?_); refine goesL_ (some 21) rfl rfl Try.func44 (by kernel_rfl) rfl #[.agg #[.int .i64 a0_0, .int .i64 a0_1, .int .i64 a0_2, .slice A0_3 l0_3.length c0_3]] rfl (by (try simp only [List.map_toArray, List.map_cons, List.map_nil]); rfl) ?_; (with_reducible refine (impl_copyImage.calls a0_0 a0_1 a0_2 _ _ l0_3 tz4 tz6 tz7 tz8 _ ?side1 ?side2 A17.out).mono ?_); (case side1 => repeat (exact (Kd.C_below HR0_3.out HB.out))); (case side2 => exact HC0_3.out); rintro e w20 ⟨vz1, rfl, ho0, hb⟩; refine ⟨_, rfl, ?_⟩; have HOz2 := mk (Kd.R_lower ho0 (below_size HB.out)); replace BKz2 := mk (blk_below BKz2.out hb); replace BKz0 := mk (blk_below BKz0.out hb); replace HB := mk (below_step HB.out hb); (try clear hb); (try clear ho0)) | ((with_reducible refine gate_dst (N := 6) rfl ?_); (try (refine gate_guard (by rfl) ?_; dsimp only)); refine box_event (by rfl) (N := 6) (by rfl) (cs := #[.int .i64 0, .int .i64 0, .int .i64 0, .slice none 0 0]) (t := 28) (by go_simp; done) ?_; intro gbz1 hg w21 hbox hb; replace HOz2 := mk (Kd.R_below HOz2.out hb); have BKz1 := mk (hbox); have GEz3 := mk ((by rw [hg]; exact (below_size HB.out) : w.heap.size ≤ gbz1)); replace HB := mk (below_step HB.out hb); have NBz3 := mk ((by rw [hg]; exact Nat.ne_of_lt (blk_lt BKz2.out) : gbz4 ≠ gbz1)); have NBz10 := mk ((by rw [hg]; exact Nat.ne_of_gt (blk_lt BKz2.out) : gbz1 ≠ gbz4)); replace BKz2 := mk (blk_below BKz2.out hb); have NBz4 := mk ((by rw [hg]; exact Nat.ne_of_lt (blk_lt BKz0.out) : gbz2 ≠ gbz1)); have NBz11 := mk ((by rw [hg]; exact Nat.ne_of_gt (blk_lt BKz0.out) : gbz1 ≠ gbz2)); replace BKz0 := mk (blk_below BKz0.out hb); clear hb hbox hg; obtain ⟨hcz24_0, hcz24_1, hcz24_2, hcz24_3, hfz24_0, hfz24_1, hfz24_2, hfz24_3⟩ := c4 BKz1.out; obtain ⟨Ao25, co25, eo25⟩ := Kd.R_slice HOz2.out; subst eo25))
   go_loopg [24] kj2 (fun kq v24 w' => ∃ (x24_2 : Int) (xz6 : Int) (xz5 : Int) (xz4 : Int) (xz0 : Int) (xz1 : Int) (xz2 : Int) (xz3 : List Int) (u16011003 : Value), v24 = .int .i64 x24_2 ∧ Aside0 (impl_RunSteps.l0 kq l1 l1 (l1.length : Int) x24_2 xz0 xz1 xz2 xz3 = some (r1, r2, r3, r4, r5)) ∧ Aside0 (kq ≤ kj2) ∧ Aside0 (Kd.R (Kd.int .i64) 3 w' w.heap.size (fun _ => True) u16011003 xz3) ∧ Aside0 (w'.heap[gbz4]? = some (.cells #[.int .i64 a0_0, .int .i64 a0_1, .int .i64 a0_2, (.slice A0_3 l0_3.length c0_3)] 28 (0, 0))) ∧ Aside0 (w'.heap[gbz2]? = some (.cells #[.int .i64 xz6, .int .i64 xz5, .int .i64 xz4, (.slice none 0 0)] 28 (0, 0))) ∧ Aside0 (w'.heap[gbz1]? = some (.cells #[.int .i64 xz0, .int .i64 xz1, .int .i64 xz2, u16011003] 28 (0, 0))) ∧ Aside0 (Below w.heap.size w w'))
   case atStart => exact ⟨(0), (0), (0), (0), (tz4), (tz6), (tz7), (tz8), (.slice Ao25 tz8.length co25), (by rfl), H', ⟨Nat.le_refl _⟩, ⟨by exact Kd.R_mono (Kd.R_far (p := ⟨gbz1, 3, none⟩) (Kd.R_far (p := ⟨gbz1, 2, none⟩) (Kd.R_far (p := ⟨gbz1, 1, none⟩) (Kd.R_far (p := ⟨gbz1, 0, none⟩) (Kd.R_types HOz2.out BKz1.out (by decide)) (fun _ hk => hk.2) (.int .i64 tz4)) (fun _ hk => hk.2) (.int .i64 tz6)) (fun _ hk => hk.2) (.int .i64 tz7)) (fun _ hk => hk.2) (.slice Ao25 tz8.length co25)) (fun _ hk => trivial)⟩, ⟨by refine blk_far ?_ NBz3.out _; refine blk_far ?_ NBz3.out _; refine blk_far ?_ NBz3.out _; refine blk_far ?_ NBz3.out _; exact BKz2.out⟩, ⟨by refine blk_far ?_ NBz4.out _; refine blk_far ?_ NBz4.out _; refine blk_far ?_ NBz4.out _; refine blk_far ?_ NBz4.out _; exact BKz0.out⟩, ⟨by refine blk_put (cs := #[.int .i64 tz4, .int .i64 tz6, .int .i64 tz7, .slice none 0 0]) ?_ 3 _ rfl; refine blk_put (cs := #[.int .i64 tz4, .int .i64 tz6, .int .i64 0, .slice none 0 0]) ?_ 2 _ rfl; refine blk_put (cs := #[.int .i64 tz4, .int .i64 0, .int .i64 0, .slice none 0 0]) ?_ 1 _ rfl; refine blk_put (cs := #[.int .i64 0, .int .i64 0, .int .i64 0, .slice none 0 0]) ?_ 0 _ rfl; exact BKz1.out⟩, ⟨by repeat (with_reducible first | exact HB.out | refine below_set ?_ GEz3.out)⟩⟩
   case round =>
    clear H'
    obtain ⟨x24_2, xz6, xz5, xz4, xz0, xz1, xz2, xz3, u16011003, rfl, HA, HK2, HOz0, BKz2, BKz0, BKz1, HB⟩ := hrel
    cases gk with
    | zero => exact absurd HA.out (by simp [impl_RunSteps.l0])
    | succ k2 =>
     have H := HA.out
     clear HA
     simp only [impl_RunSteps.l0] at H
     by_cases c26 : x24_2 < (l1.length : Int)
     ·rw [if_pos c26] at H
      have c26b0 : decide (x24_2 < (l1.length : Int)) = true := decide_eq_true c26
      clear c26
      by_cases c27 : 0 ≤ x24_2
      ·rw [if_pos c27] at H
       have c27b0 : decide (0 ≤ x24_2) = true := decide_eq_true c27
       clear c27
       by_cases c28 : x24_2 < (l1.length : Int)
       ·rw [if_pos c28] at H
        have c28b0 : decide (x24_2 < (l1.length : Int)) = true := decide_eq_true c28
        clear c28
        replace H := Option.bind_eq_some_iff.mp H
        obtain ⟨⟨tz0, tz1, tz2, tz3, tz9⟩, A290, H⟩ := H
        replace H : (if tz9 = true then (impl_RunSteps.l0 k2 l1 l1 (l1.length : Int) (wrap64 (x24_2 + 1)) tz0 tz1 tz2 tz3) else (some (xz0, xz1, xz2, xz3, x24_2))) = some (r1, r2, r3, r4, r5) := H
        have A29 := mk A290
        clear A290
        by_cases c30 : tz9 = true
        ·subst c30
         have H1 : (impl_RunSteps.l0 k2 l1 l1 (l1.length : Int) (wrap64 (x24_2 + 1)) tz0 tz1 tz2 tz3) = some (r1, r2, r3, r4, r5) := by rw [if_pos rfl] at H; exact H
         clear H
         have H := H1
         clear H1
         have H' := mk H
         clear H
         have p16011 : 0 ≤ (x24_2 : Int) := of_decide_eq_true (by (with_reducible assumption))
         have q16011 : x24_2 < (l1.length : Int) := of_decide_eq_true (by (with_reducible assumption))
         obtain ⟨ad16011, Az0, cz0, e16011, hx16011_0, hx16011_1, hx16011_2, hx16011_3, hx16011_4, hx16011_5, hl16011_5, hi16011_5⟩ := at_T43 HR1.out x24_2 p16011 q16011
         cases e16011
         replace hx16011_0 := bc HB.out hx16011_0
         replace hx16011_1 := bc HB.out hx16011_1
         replace hx16011_2 := bc HB.out hx16011_2
         replace hx16011_3 := bc HB.out hx16011_3
         replace hx16011_4 := bc HB.out hx16011_4
         replace hx16011_5 := bc HB.out hx16011_5
         have HR16011_5 := mk hi16011_5
         have HC16011_5 := mk hl16011_5
         clear hi16011_5 hl16011_5
         replace p16011 := eq_true p16011
         replace q16011 := eq_true q16011
         go_wp2_with (first | ((with_reducible refine gate_dst (N := 8) rfl ?_); (try (refine gate_guard (by rfl) ?_; dsimp only)); refine box_event (by rfl) (N := 8) (by rfl) (cs := #[.int .i64 0, .int .i64 0, .int .i64 0, .int .i64 0, .int .i64 0, .slice none 0 0]) (t := 43) (by go_simp; done) ?_; intro gbz0 hg w31 hbox hb; replace HOz0 := mk (Kd.R_below HOz0.out hb); have BKz3 := mk (hbox); have GEz0 := mk ((by rw [hg]; exact (below_size HB.out) : w.heap.size ≤ gbz0)); replace HB := mk (below_step HB.out hb); have NBz1 := mk ((by rw [hg]; exact Nat.ne_of_lt (blk_lt BKz2.out) : gbz4 ≠ gbz0)); replace BKz2 := mk (blk_below BKz2.out hb); have NBz2 := mk ((by rw [hg]; exact Nat.ne_of_lt (blk_lt BKz0.out) : gbz2 ≠ gbz0)); replace BKz0 := mk (blk_below BKz0.out hb); have NBz0 := mk ((by rw [hg]; exact Nat.ne_of_lt (blk_lt BKz1.out) : gbz1 ≠ gbz0)); replace BKz1 := mk (blk_below BKz1.out hb); clear hb hbox hg; have hnc34 := NBz0.out; obtain ⟨hcz35_0, hcz35_1, hcz35_2, hcz35_3, hcz35_4, hcz35_5, hfz35_0, hfz35_1, hfz35_2, hfz35_3, hfz35_4, hfz35_5⟩ := c6 BKz3.out; have hnb36 := NBz10.out; have hnc36 := NBz3.out; have hnb37 := NBz11.out; have hnc37 := NBz4.out; obtain ⟨hcz38_0, hcz38_1, hcz38_2, -⟩ := c4 BKz1.out; have hcz38_3 : w31.cell? ⟨gbz1, 3, none⟩ = some u16011003 := (blk_cell BKz1.out 3).trans rfl; obtain ⟨Ao39, co39, eo39⟩ := Kd.R_slice HOz0.out; subst eo39) | ((with_reducible refine gate_callee (f := 45) rfl ?_); refine goesL_ (some 32) rfl rfl Try.func45 (by kernel_rfl) rfl #[.agg #[.int .i64 xz0, .int .i64 xz1, .int .i64 xz2, .slice Ao39 xz3.length co39], .agg #[.int .i64 ((rd_T43 l1 x24_2).f0), .int .i64 ((rd_T43 l1 x24_2).f1.f0), .int .i64 ((rd_T43 l1 x24_2).f1.f1), .int .i64 ((rd_T43 l1 x24_2).f1.f2), .int .i64 ((rd_T43 l1 x24_2).f1.f3), .slice Az0 ((rd_T43 l1 x24_2).f2).length cz0]] rfl (by (try simp only [List.map_toArray, List.map_cons, List.map_nil]); rfl) ?_; (with_reducible refine (impl_doStep.calls xz0 xz1 xz2 _ _ xz3 ((rd_T43 l1 x24_2).f0) ((rd_T43 l1 x24_2).f1.f0) ((rd_T43 l1 x24_2).f1.f1) ((rd_T43 l1 x24_2).f1.f2) ((rd_T43 l1 x24_2).f1.f3) _ _ ((rd_T43 l1 x24_2).f2) tz0 tz1 tz2 tz3 true _ ?side1 ?side2 ?side3 ?side4 A29.out).mono ?_); (case side1 => refine (Kd.R_reads' (e := 3) (base := w.heap.size) (ok := fun k_ => True) (n := xz3.length) (c := co39) ?_).2.2; exact (by exact (Kd.R_mono (Kd.R_far (p := ⟨gbz0, 5, none⟩) (Kd.R_far (p := ⟨gbz0, 4, none⟩) (Kd.R_far (p := ⟨gbz0, 3, none⟩) (Kd.R_far (p := ⟨gbz0, 2, none⟩) (Kd.R_far (p := ⟨gbz0, 1, none⟩) (Kd.R_far (p := ⟨gbz0, 0, none⟩) (Kd.R_types HOz0.out BKz3.out (by decide)) (fun _ hk => hk.2) (.int .i64 ((rd_T43 l1 x24_2).f0))) (fun _ hk => hk.2) (.int .i64 ((rd_T43 l1 x24_2).f1.f0))) (fun _ hk => hk.2) (.int .i64 ((rd_T43 l1 x24_2).f1.f1))) (fun _ hk => hk.2) (.int .i64 ((rd_T43 l1 x24_2).f1.f2))) (fun _ hk => hk.2) (.int .i64 ((rd_T43 l1 x24_2).f1.f3))) (fun _ hk => hk.2) (.slice Az0 ((rd_T43 l1 x24_2).f2).length cz0)) (fun _ h_ => h_.1)))); (case side2 => exact (Kd.R_reads' HOz0.out).2.1); (case side3 => exact Kd.C_below HR16011_5.out (by repeat (with_reducible first | exact HB.out | refine below_set ?_ GEz0.out))); (case side4 => exact HC16011_5.out); rintro e w40 ⟨vz0, rfl, ho0, hb⟩; refine ⟨_, rfl, ?_⟩; have HOz1 := mk (Kd.R_lower (Kd.R_new' ho0 (Kd.R_lt (by exact (Kd.R_mono (Kd.R_far (p := ⟨gbz0, 5, none⟩) (Kd.R_far (p := ⟨gbz0, 4, none⟩) (Kd.R_far (p := ⟨gbz0, 3, none⟩) (Kd.R_far (p := ⟨gbz0, 2, none⟩) (Kd.R_far (p := ⟨gbz0, 1, none⟩) (Kd.R_far (p := ⟨gbz0, 0, none⟩) (Kd.R_types HOz0.out BKz3.out (by decide)) (fun _ hk => hk.2) (.int .i64 ((rd_T43 l1 x24_2).f0))) (fun _ hk => hk.2) (.int .i64 ((rd_T43 l1 x24_2).f1.f0))) (fun _ hk => hk.2) (.int .i64 ((rd_T43 l1 x24_2).f1.f1))) (fun _ hk => hk.2) (.int .i64 ((rd_T43 l1 x24_2).f1.f2))) (fun _ hk => hk.2) (.int .i64 ((rd_T43 l1 x24_2).f1.f3))) (fun _ hk => hk.2) (.slice Az0 ((rd_T43 l1 x24_2).f2).length cz0)) (fun _ h_ => h_.1))))) (below_size (by repeat (with_reducible first | exact HB.out | refine below_set ?_ GEz0.out)))); replace HOz0 := mk (Kd.R_elder' (by exact (Kd.R_mono (Kd.R_far (p := ⟨gbz0, 5, none⟩) (Kd.R_far (p := ⟨gbz0, 4, none⟩) (Kd.R_far (p := ⟨gbz0, 3, none⟩) (Kd.R_far (p := ⟨gbz0, 2, none⟩) (Kd.R_far (p := ⟨gbz0, 1, none⟩) (Kd.R_far (p := ⟨gbz0, 0, none⟩) (Kd.R_types HOz0.out BKz3.out (by decide)) (fun _ hk => hk.2) (.int .i64 ((rd_T43 l1 x24_2).f0))) (fun _ hk => hk.2) (.int .i64 ((rd_T43 l1 x24_2).f1.f0))) (fun _ hk => hk.2) (.int .i64 ((rd_T43 l1 x24_2).f1.f1))) (fun _ hk => hk.2) (.int .i64 ((rd_T43 l1 x24_2).f1.f2))) (fun _ hk => hk.2) (.int .i64 ((rd_T43 l1 x24_2).f1.f3))) (fun _ hk => hk.2) (.slice Az0 ((rd_T43 l1 x24_2).f2).length cz0)) (fun _ h_ => h_.1))) (Kd.R_base ho0) hb); replace BKz2 := mk (blk_below (g := gbz4) (o := .cells #[.int .i64 a0_0, .int .i64 a0_1, .int .i64 a0_2, .slice A0_3 l0_3.length c0_3] 28 (0, 0)) (by refine blk_far ?_ NBz1.out _; refine blk_far ?_ NBz1.out _; refine blk_far ?_ NBz1.out _; refine blk_far ?_ NBz1.out _; refine blk_far ?_ NBz1.out _; refine blk_far ?_ NBz1.out _; exact BKz2.out) hb); replace BKz0 := mk (blk_below (g := gbz2) (o := .cells #[.int .i64 xz6, .int .i64 xz5, .int .i64 xz4, .slice none 0 0] 28 (0, 0)) (by refine blk_far ?_ NBz2.out _; refine blk_far ?_ NBz2.out _; refine blk_far ?_ NBz2.out _; refine blk_far ?_ NBz2.out _; refine blk_far ?_ NBz2.out _; refine blk_far ?_ NBz2.out _; exact BKz0.out) hb); replace BKz1 := mk (blk_below (g := gbz1) (o := .cells #[.int .i64 xz0, .int .i64 xz1, .int .i64 xz2, .slice Ao39 xz3.length co39] 28 (0, 0)) (by refine blk_far ?_ NBz0.out _; refine blk_far ?_ NBz0.out _; refine blk_far ?_ NBz0.out _; refine blk_far ?_ NBz0.out _; refine blk_far ?_ NBz0.out _; refine blk_far ?_ NBz0.out _; exact BKz1.out) hb); replace BKz3 := mk (blk_below (g := gbz0) (o := .cells #[.int .i64 ((rd_T43 l1 x24_2).f0), .int .i64 ((rd_T43 l1 x24_2).f1.f0), .int .i64 ((rd_T43 l1 x24_2).f1.f1), .int .i64 ((rd_T43 l1 x24_2).f1.f2), .int .i64 ((rd_T43 l1 x24_2).f1.f3), .slice Az0 ((rd_T43 l1 x24_2).f2).length cz0] 43 (0, 0)) (by refine blk_put (cs := #[.int .i64 ((rd_T43 l1 x24_2).f0), .int .i64 ((rd_T43 l1 x24_2).f1.f0), .int .i64 ((rd_T43 l1 x24_2).f1.f1), .int .i64 ((rd_T43 l1 x24_2).f1.f2), .int .i64 ((rd_T43 l1 x24_2).f1.f3), .slice none 0 0]) ?_ 5 _ rfl; refine blk_put (cs := #[.int .i64 ((rd_T43 l1 x24_2).f0), .int .i64 ((rd_T43 l1 x24_2).f1.f0), .int .i64 ((rd_T43 l1 x24_2).f1.f1), .int .i64 ((rd_T43 l1 x24_2).f1.f2), .int .i64 0, .slice none 0 0]) ?_ 4 _ rfl; refine blk_put (cs := #[.int .i64 ((rd_T43 l1 x24_2).f0), .int .i64 ((rd_T43 l1 x24_2).f1.f0), .int .i64 ((rd_T43 l1 x24_2).f1.f1), .int .i64 0, .int .i64 0, .slice none 0 0]) ?_ 3 _ rfl; refine blk_put (cs := #[.int .i64 ((rd_T43 l1 x24_2).f0), .int .i64 ((rd_T43 l1 x24_2).f1.f0), .int .i64 0, .int .i64 0, .int .i64 0, .slice none 0 0]) ?_ 2 _ rfl; refine blk_put (cs := #[.int .i64 ((rd_T43 l1 x24_2).f0), .int .i64 0, .int .i64 0, .int .i64 0, .int .i64 0, .slice none 0 0]) ?_ 1 _ rfl; refine blk_put (cs := #[.int .i64 0, .int .i64 0, .int .i64 0, .int .i64 0, .int .i64 0, .slice none 0 0]) ?_ 0 _ rfl; exact BKz3.out) hb); replace HB := mk (below_step (by repeat (with_reducible first | exact HB.out | refine below_set ?_ GEz0.out)) hb); (try clear hb); (try clear ho0)) | ((with_reducible refine gate_dst (N := 9) rfl ?_); (try (refine gate_guard (by rfl) ?_; dsimp only)); refine box_event (by rfl) (N := 9) (by rfl) (cs := #[.int .i64 0, .int .i64 0, .int .i64 0, .slice none 0 0]) (t := 28) (by go_simp; done) ?_; intro gbz3 hg w41 hbox hb; have n0_ := mk (Kd.R_below HOz0.out hb); have n1_ := mk (Kd.R_below HOz1.out hb); have n2_ := mk (blk_below BKz2.out hb); have n3_ := mk (blk_below BKz0.out hb); have n4_ := mk (blk_below BKz1.out hb); have n6_ := mk (below_step HB.out hb); have n7_ := mk (hbox); have n9_ := mk ((by rw [hg]; exact (below_size HB.out) : w.heap.size ≤ gbz3)); have n10_ := mk ((by rw [hg]; exact Nat.ne_of_lt (blk_lt BKz2.out) : gbz4 ≠ gbz3)); have n12_ := mk ((by rw [hg]; exact Nat.ne_of_lt (blk_lt BKz0.out) : gbz2 ≠ gbz3)); have n14_ := mk ((by rw [hg]; exact Nat.ne_of_lt (blk_lt BKz1.out) : gbz1 ≠ gbz3)); have n16_ := mk ((by rw [hg]; exact Nat.ne_of_lt (blk_lt BKz3.out) : gbz0 ≠ gbz3)); have n17_ := mk ((by rw [hg]; exact Nat.ne_of_gt (blk_lt BKz3.out) : gbz3 ≠ gbz0)); clear HOz0; clear HOz1; clear BKz2; clear BKz0; clear BKz1; clear BKz3; clear HB; have HOz0 := n0_; have HOz1 := n1_; have BKz2 := n2_; have BKz0 := n3_; have BKz1 := n4_; have HB := n6_; have BKz4 := n7_; have GEz2 := n9_; have NBz7 := n10_; have NBz5 := n12_; have NBz6 := n14_; have NBz8 := n16_; have NBz9 := n17_; clear hb hbox hg; have hnc44 := NBz6.out; have hnb45 := NBz9.out; have hnc45 := NBz8.out; obtain ⟨hcz46_0, hcz46_1, hcz46_2, hcz46_3, hfz46_0, hfz46_1, hfz46_2, hfz46_3⟩ := c4 BKz4.out; obtain ⟨Ao47, co47, eo47⟩ := Kd.R_slice HOz1.out; subst eo47; obtain ⟨hcz48_0, hcz48_1, hcz48_2, hcz48_3, hfz48_0, hfz48_1, hfz48_2, hfz48_3⟩ := c4 BKz1.out))
         go_roundg k2
         case measure => have := HJ2.out; have := HK2.out; omega
         case rel => exact ⟨(wrap64 (x24_2 + 1)), (xz6), (xz5), (xz4), (tz0), (tz1), (tz2), (tz3), (.slice Ao47 tz3.length co47), (by rfl), H', ⟨by have := HJ2.out; have := HK2.out; omega⟩, ⟨by exact Kd.R_mono (Kd.R_far (p := ⟨gbz1, 3, none⟩) (Kd.R_far (p := ⟨gbz1, 2, none⟩) (Kd.R_far (p := ⟨gbz1, 1, none⟩) (Kd.R_far (p := ⟨gbz1, 0, none⟩) (Kd.R_far (p := ⟨gbz3, 3, none⟩) (Kd.R_far (p := ⟨gbz3, 2, none⟩) (Kd.R_far (p := ⟨gbz3, 1, none⟩) (Kd.R_far (p := ⟨gbz3, 0, none⟩) (Kd.R_types (Kd.R_types HOz1.out BKz4.out (by decide)) BKz1.out (by decide)) (fun _ hk => hk.1.2) (.int .i64 tz0)) (fun _ hk => hk.1.2) (.int .i64 tz1)) (fun _ hk => hk.1.2) (.int .i64 tz2)) (fun _ hk => hk.1.2) (.slice Ao47 tz3.length co47)) (fun _ hk => hk.2) (.int .i64 tz0)) (fun _ hk => hk.2) (.int .i64 tz1)) (fun _ hk => hk.2) (.int .i64 tz2)) (fun _ hk => hk.2) (.slice Ao47 tz3.length co47)) (fun _ hk => trivial)⟩, ⟨by refine blk_far ?_ NBz3.out _; refine blk_far ?_ NBz3.out _; refine blk_far ?_ NBz3.out _; refine blk_far ?_ NBz3.out _; refine blk_far ?_ NBz7.out _; refine blk_far ?_ NBz7.out _; refine blk_far ?_ NBz7.out _; refine blk_far ?_ NBz7.out _; exact BKz2.out⟩, ⟨by refine blk_far ?_ NBz4.out _; refine blk_far ?_ NBz4.out _; refine blk_far ?_ NBz4.out _; refine blk_far ?_ NBz4.out _; refine blk_far ?_ NBz5.out _; refine blk_far ?_ NBz5.out _; refine blk_far ?_ NBz5.out _; refine blk_far ?_ NBz5.out _; exact BKz0.out⟩, ⟨by refine blk_put (cs := #[.int .i64 tz0, .int .i64 tz1, .int .i64 tz2, .slice Ao39 xz3.length co39]) ?_ 3 _ rfl; refine blk_put (cs := #[.int .i64 tz0, .int .i64 tz1, .int .i64 xz2, .slice Ao39 xz3.length co39]) ?_ 2 _ rfl; refine blk_put (cs := #[.int .i64 tz0, .int .i64 xz1, .int .i64 xz2, .slice Ao39 xz3.length co39]) ?_ 1 _ rfl; refine blk_put (cs := #[.int .i64 xz0, .int .i64 xz1, .int .i64 xz2, .slice Ao39 xz3.length co39]) ?_ 0 _ rfl; refine blk_far ?_ NBz6.out _; refine blk_far ?_ NBz6.out _; refine blk_far ?_ NBz6.out _; refine blk_far ?_ NBz6.out _; exact BKz1.out⟩, ⟨by repeat (with_reducible first | exact HB.out | refine below_set ?_ GEz3.out | refine below_set ?_ GEz2.out)⟩⟩
        replace c30 := Bool.eq_false_iff.mpr c30
        subst c30
        have H1 : (some (xz0, xz1, xz2, xz3, x24_2)) = some (r1, r2, r3, r4, r5) := by rw [if_neg (show ¬ (false = true) by decide)] at H; exact H
        clear H
        have H := H1
        clear H1
        simp only [Option.some.injEq, Prod.mk.injEq] at H
        obtain ⟨rfl, rfl, rfl, rfl, rfl⟩ := H
        have p16011 : 0 ≤ (x24_2 : Int) := of_decide_eq_true (by (with_reducible assumption))
        have q16011 : x24_2 < (l1.length : Int) := of_decide_eq_true (by (with_reducible assumption))
        obtain ⟨ad16011, Az0, cz0, e16011, hx16011_0, hx16011_1, hx16011_2, hx16011_3, hx16011_4, hx16011_5, hl16011_5, hi16011_5⟩ := at_T43 HR1.out x24_2 p16011 q16011
        cases e16011
        replace hx16011_0 := bc HB.out hx16011_0
        replace hx16011_1 := bc HB.out hx16011_1
        replace hx16011_2 := bc HB.out hx16011_2
        replace hx16011_3 := bc HB.out hx16011_3
        replace hx16011_4 := bc HB.out hx16011_4
        replace hx16011_5 := bc HB.out hx16011_5
        have HR16011_5 := mk hi16011_5
        have HC16011_5 := mk hl16011_5
        clear hi16011_5 hl16011_5
        replace p16011 := eq_true p16011
        replace q16011 := eq_true q16011
        go_wp2_with (first | ((with_reducible refine gate_dst (N := 8) rfl ?_); (try (refine gate_guard (by rfl) ?_; dsimp only)); refine box_event (by rfl) (N := 8) (by rfl) (cs := #[.int .i64 0, .int .i64 0, .int .i64 0, .int .i64 0, .int .i64 0, .slice none 0 0]) (t := 43) (by go_simp; done) ?_; intro gbz0 hg w49 hbox hb; replace HOz0 := mk (Kd.R_below HOz0.out hb); have BKz3 := mk (hbox); have GEz0 := mk ((by rw [hg]; exact (below_size HB.out) : w.heap.size ≤ gbz0)); replace HB := mk (below_step HB.out hb); have NBz1 := mk ((by rw [hg]; exact Nat.ne_of_lt (blk_lt BKz2.out) : gbz4 ≠ gbz0)); replace BKz2 := mk (blk_below BKz2.out hb); have NBz2 := mk ((by rw [hg]; exact Nat.ne_of_lt (blk_lt BKz0.out) : gbz2 ≠ gbz0)); replace BKz0 := mk (blk_below BKz0.out hb); have NBz0 := mk ((by rw [hg]; exact Nat.ne_of_lt (blk_lt BKz1.out) : gbz1 ≠ gbz0)); replace BKz1 := mk (blk_below BKz1.out hb); clear hb hbox hg; have hnc52 := NBz0.out; obtain ⟨hcz53_0, hcz53_1, hcz53_2, hcz53_3, hcz53_4, hcz53_5, hfz53_0, hfz53_1, hfz53_2, hfz53_3, hfz53_4, hfz53_5⟩ := c6 BKz3.out; have hnb54 := NBz10.out; have hnc54 := NBz3.out; have hnb55 := NBz11.out; have hnc55 := NBz4.out; obtain ⟨hcz56_0, hcz56_1, hcz56_2, -⟩ := c4 BKz1.out; have hcz56_3 : w49.cell? ⟨gbz1, 3, none⟩ = some u16011003 := (blk_cell BKz1.out 3).trans rfl; obtain ⟨Ao57, co57, eo57⟩ := Kd.R_slice HOz0.out; subst eo57) | ((with_reducible refine gate_callee (f := 45) rfl ?_); refine goesL_ (some 32) rfl rfl Try.func45 (by kernel_rfl) rfl #[.agg #[.int .i64 xz0, .int .i64 xz1, .int .i64 xz2, .slice Ao57 xz3.length co57], .agg #[.int .i64 ((rd_T43 l1 x24_2).f0), .int .i64 ((rd_T43 l1 x24_2).f1.f0), .int .i64 ((rd_T43 l1 x24_2).f1.f1), .int .i64 ((rd_T43 l1 x24_2).f1.f2), .int .i64 ((rd_T43 l1 x24_2).f1.f3), .slice Az0 ((rd_T43 l1 x24_2).f2).length cz0]] rfl (by (try simp only [List.map_toArray, List.map_cons, List.map_nil]); rfl) ?_; (with_reducible refine (impl_doStep.calls xz0 xz1 xz2 _ _ xz3 ((rd_T43 l1 x24_2).f0) ((rd_T43 l1 x24_2).f1.f0) ((rd_T43 l1 x24_2).f1.f1) ((rd_T43 l1 x24_2).f1.f2) ((rd_T43 l1 x24_2).f1.f3) _ _ ((rd_T43 l1 x24_2).f2) tz0 tz1 tz2 tz3 false _ ?side1 ?side2 ?side3 ?side4 A29.out).mono ?_); (case side1 => refine (Kd.R_reads' (e := 3) (base := w.heap.size) (ok := fun k_ => True) (n := xz3.length) (c := co57) ?_).2.2; exact (by exact (Kd.R_mono (Kd.R_far (p := ⟨gbz0, 5, none⟩) (Kd.R_far (p := ⟨gbz0, 4, none⟩) (Kd.R_far (p := ⟨gbz0, 3, none⟩) (Kd.R_far (p := ⟨gbz0, 2, none⟩) (Kd.R_far (p := ⟨gbz0, 1, none⟩) (Kd.R_far (p := ⟨gbz0, 0, none⟩) (Kd.R_types HOz0.out BKz3.out (by decide)) (fun _ hk => hk.2) (.int .i64 ((rd_T43 l1 x24_2).f0))) (fun _ hk => hk.2) (.int .i64 ((rd_T43 l1 x24_2).f1.f0))) (fun _ hk => hk.2) (.int .i64 ((rd_T43 l1 x24_2).f1.f1))) (fun _ hk => hk.2) (.int .i64 ((rd_T43 l1 x24_2).f1.f2))) (fun _ hk => hk.2) (.int .i64 ((rd_T43 l1 x24_2).f1.f3))) (fun _ hk => hk.2) (.slice Az0 ((rd_T43 l1 x24_2).f2).length cz0)) (fun _ h_ => h_.1)))); (case side2 => exact (Kd.R_reads' HOz0.out).2.1); (case side3 => exact Kd.C_below HR16011_5.out (by repeat (with_reducible first | exact HB.out | refine below_set ?_ GEz0.out))); (case side4 => exact HC16011_5.out); rintro e w58 ⟨vz0, rfl, ho0, hb⟩; refine ⟨_, rfl, ?_⟩; have HOz1 := mk (Kd.R_lower (Kd.R_new' ho0 (Kd.R_lt (by exact (Kd.R_mono (Kd.R_far (p := ⟨gbz0, 5, none⟩) (Kd.R_far (p := ⟨gbz0, 4, none⟩) (Kd.R_far (p := ⟨gbz0, 3, none⟩) (Kd.R_far (p := ⟨gbz0, 2, none⟩) (Kd.R_far (p := ⟨gbz0, 1, none⟩) (Kd.R_far (p := ⟨gbz0, 0, none⟩) (Kd.R_types HOz0.out BKz3.out (by decide)) (fun _ hk => hk.2) (.int .i64 ((rd_T43 l1 x24_2).f0))) (fun _ hk => hk.2) (.int .i64 ((rd_T43 l1 x24_2).f1.f0))) (fun _ hk => hk.2) (.int .i64 ((rd_T43 l1 x24_2).f1.f1))) (fun _ hk => hk.2) (.int .i64 ((rd_T43 l1 x24_2).f1.f2))) (fun _ hk => hk.2) (.int .i64 ((rd_T43 l1 x24_2).f1.f3))) (fun _ hk => hk.2) (.slice Az0 ((rd_T43 l1 x24_2).f2).length cz0)) (fun _ h_ => h_.1))))) (below_size (by repeat (with_reducible first | exact HB.out | refine below_set ?_ GEz0.out)))); replace HOz0 := mk (Kd.R_elder' (by exact (Kd.R_mono (Kd.R_far (p := ⟨gbz0, 5, none⟩) (Kd.R_far (p := ⟨gbz0, 4, none⟩) (Kd.R_far (p := ⟨gbz0, 3, none⟩) (Kd.R_far (p := ⟨gbz0, 2, none⟩) (Kd.R_far (p := ⟨gbz0, 1, none⟩) (Kd.R_far (p := ⟨gbz0, 0, none⟩) (Kd.R_types HOz0.out BKz3.out (by decide)) (fun _ hk => hk.2) (.int .i64 ((rd_T43 l1 x24_2).f0))) (fun _ hk => hk.2) (.int .i64 ((rd_T43 l1 x24_2).f1.f0))) (fun _ hk => hk.2) (.int .i64 ((rd_T43 l1 x24_2).f1.f1))) (fun _ hk => hk.2) (.int .i64 ((rd_T43 l1 x24_2).f1.f2))) (fun _ hk => hk.2) (.int .i64 ((rd_T43 l1 x24_2).f1.f3))) (fun _ hk => hk.2) (.slice Az0 ((rd_T43 l1 x24_2).f2).length cz0)) (fun _ h_ => h_.1))) (Kd.R_base ho0) hb); replace BKz2 := mk (blk_below (g := gbz4) (o := .cells #[.int .i64 a0_0, .int .i64 a0_1, .int .i64 a0_2, .slice A0_3 l0_3.length c0_3] 28 (0, 0)) (by refine blk_far ?_ NBz1.out _; refine blk_far ?_ NBz1.out _; refine blk_far ?_ NBz1.out _; refine blk_far ?_ NBz1.out _; refine blk_far ?_ NBz1.out _; refine blk_far ?_ NBz1.out _; exact BKz2.out) hb); replace BKz0 := mk (blk_below (g := gbz2) (o := .cells #[.int .i64 xz6, .int .i64 xz5, .int .i64 xz4, .slice none 0 0] 28 (0, 0)) (by refine blk_far ?_ NBz2.out _; refine blk_far ?_ NBz2.out _; refine blk_far ?_ NBz2.out _; refine blk_far ?_ NBz2.out _; refine blk_far ?_ NBz2.out _; refine blk_far ?_ NBz2.out _; exact BKz0.out) hb); replace BKz1 := mk (blk_below (g := gbz1) (o := .cells #[.int .i64 xz0, .int .i64 xz1, .int .i64 xz2, .slice Ao57 xz3.length co57] 28 (0, 0)) (by refine blk_far ?_ NBz0.out _; refine blk_far ?_ NBz0.out _; refine blk_far ?_ NBz0.out _; refine blk_far ?_ NBz0.out _; refine blk_far ?_ NBz0.out _; refine blk_far ?_ NBz0.out _; exact BKz1.out) hb); replace BKz3 := mk (blk_below (g := gbz0) (o := .cells #[.int .i64 ((rd_T43 l1 x24_2).f0), .int .i64 ((rd_T43 l1 x24_2).f1.f0), .int .i64 ((rd_T43 l1 x24_2).f1.f1), .int .i64 ((rd_T43 l1 x24_2).f1.f2), .int .i64 ((rd_T43 l1 x24_2).f1.f3), .slice Az0 ((rd_T43 l1 x24_2).f2).length cz0] 43 (0, 0)) (by refine blk_put (cs := #[.int .i64 ((rd_T43 l1 x24_2).f0), .int .i64 ((rd_T43 l1 x24_2).f1.f0), .int .i64 ((rd_T43 l1 x24_2).f1.f1), .int .i64 ((rd_T43 l1 x24_2).f1.f2), .int .i64 ((rd_T43 l1 x24_2).f1.f3), .slice none 0 0]) ?_ 5 _ rfl; refine blk_put (cs := #[.int .i64 ((rd_T43 l1 x24_2).f0), .int .i64 ((rd_T43 l1 x24_2).f1.f0), .int .i64 ((rd_T43 l1 x24_2).f1.f1), .int .i64 ((rd_T43 l1 x24_2).f1.f2), .int .i64 0, .slice none 0 0]) ?_ 4 _ rfl; refine blk_put (cs := #[.int .i64 ((rd_T43 l1 x24_2).f0), .int .i64 ((rd_T43 l1 x24_2).f1.f0), .int .i64 ((rd_T43 l1 x24_2).f1.f1), .int .i64 0, .int .i64 0, .slice none 0 0]) ?_ 3 _ rfl; refine blk_put (cs := #[.int .i64 ((rd_T43 l1 x24_2).f0), .int .i64 ((rd_T43 l1 x24_2).f1.f0), .int .i64 0, .int .i64 0, .int .i64 0, .slice none 0 0]) ?_ 2 _ rfl; refine blk_put (cs := #[.int .i64 ((rd_T43 l1 x24_2).f0), .int .i64 0, .int .i64 0, .int .i64 0, .int .i64 0, .slice none 0 0]) ?_ 1 _ rfl; refine blk_put (cs := #[.int .i64 0, .int .i64 0, .int .i64 0, .int .i64 0, .int .i64 0, .slice none 0 0]) ?_ 0 _ rfl; exact BKz3.out) hb); replace HB := mk (below_step (by repeat (with_reducible first | exact HB.out | refine below_set ?_ GEz0.out)) hb); (try clear hb); (try clear ho0)) | ((with_reducible refine gate_dst (N := 9) rfl ?_); (try (refine gate_guard (by rfl) ?_; dsimp only)); refine box_event (by rfl) (N := 9) (by rfl) (cs := #[.int .i64 0, .int .i64 0, .int .i64 0, .slice none 0 0]) (t := 28) (by go_simp; done) ?_; intro gbz3 hg w59 hbox hb; have n0_ := mk (Kd.R_below HOz0.out hb); have n1_ := mk (Kd.R_below HOz1.out hb); have n3_ := mk (blk_below BKz0.out hb); have n4_ := mk (blk_below BKz1.out hb); have n6_ := mk (below_step HB.out hb); have n7_ := mk (hbox); have n9_ := mk ((by rw [hg]; exact (below_size HB.out) : w.heap.size ≤ gbz3)); have n12_ := mk ((by rw [hg]; exact Nat.ne_of_lt (blk_lt BKz0.out) : gbz2 ≠ gbz3)); have n14_ := mk ((by rw [hg]; exact Nat.ne_of_lt (blk_lt BKz1.out) : gbz1 ≠ gbz3)); have n15_ := mk ((by rw [hg]; exact Nat.ne_of_gt (blk_lt BKz1.out) : gbz3 ≠ gbz1)); have n16_ := mk ((by rw [hg]; exact Nat.ne_of_lt (blk_lt BKz3.out) : gbz0 ≠ gbz3)); have n17_ := mk ((by rw [hg]; exact Nat.ne_of_gt (blk_lt BKz3.out) : gbz3 ≠ gbz0)); clear HOz0; clear HOz1; clear BKz2; clear BKz0; clear BKz1; clear BKz3; clear HB; have HOz0 := n0_; have HOz1 := n1_; have BKz0 := n3_; have BKz1 := n4_; have HB := n6_; have BKz4 := n7_; have GEz2 := n9_; have NBz5 := n12_; have NBz6 := n14_; have NBz14 := n15_; have NBz8 := n16_; have NBz9 := n17_; clear hb hbox hg; have hnc61 := NBz5.out; have hnb62 := NBz14.out; have hnc62 := NBz6.out; have hnb63 := NBz9.out; have hnc63 := NBz8.out; obtain ⟨hcz64_0, hcz64_1, hcz64_2, hcz64_3, hfz64_0, hfz64_1, hfz64_2, hfz64_3⟩ := c4 BKz4.out; obtain ⟨Ao65, co65, eo65⟩ := Kd.R_slice HOz1.out; subst eo65; obtain ⟨hcz66_0, hcz66_1, hcz66_2, hcz66_3, -⟩ := c4 BKz1.out; have hnb67 := NBz13.out; have hnc67 := NBz12.out; obtain ⟨hcz68_0, hcz68_1, hcz68_2, hcz68_3, hfz68_0, hfz68_1, hfz68_2, hfz68_3⟩ := c4 BKz0.out))
        refine bodyPost_ret (results_ct rfl _ _ gbz2 28 #[.int .i64 xz0, .int .i64 xz1, .int .i64 xz2, .slice Ao57 xz3.length co57] (0, 0) _ rfl (by refine blk_put (cs := #[.int .i64 xz0, .int .i64 xz1, .int .i64 xz2, .slice none 0 0]) ?_ 3 _ rfl; refine blk_put (cs := #[.int .i64 xz0, .int .i64 xz1, .int .i64 xz4, .slice none 0 0]) ?_ 2 _ rfl; refine blk_put (cs := #[.int .i64 xz0, .int .i64 xz5, .int .i64 xz4, .slice none 0 0]) ?_ 1 _ rfl; refine blk_put (cs := #[.int .i64 xz6, .int .i64 xz5, .int .i64 xz4, .slice none 0 0]) ?_ 0 _ rfl; refine blk_far ?_ NBz5.out _; refine blk_far ?_ NBz5.out _; refine blk_far ?_ NBz5.out _; refine blk_far ?_ NBz5.out _; exact BKz0.out) Try.underlying28 rfl (by kernel_rfl)) rfl ?_
        exact ⟨_, by rfl, by exact Kd.R_mono (Kd.R_far (p := ⟨gbz2, 3, none⟩) (Kd.R_far (p := ⟨gbz2, 2, none⟩) (Kd.R_far (p := ⟨gbz2, 1, none⟩) (Kd.R_far (p := ⟨gbz2, 0, none⟩) (Kd.R_far (p := ⟨gbz3, 3, none⟩) (Kd.R_far (p := ⟨gbz3, 2, none⟩) (Kd.R_far (p := ⟨gbz3, 1, none⟩) (Kd.R_far (p := ⟨gbz3, 0, none⟩) (Kd.R_types (Kd.R_types HOz0.out BKz4.out (by decide)) BKz0.out (by decide)) (fun _ hk => hk.1.2) (.int .i64 tz0)) (fun _ hk => hk.1.2) (.int .i64 tz1)) (fun _ hk => hk.1.2) (.int .i64 tz2)) (fun _ hk => hk.1.2) (.slice Ao65 tz3.length co65)) (fun _ hk => hk.2) (.int .i64 xz0)) (fun _ hk => hk.2) (.int .i64 xz1)) (fun _ hk => hk.2) (.int .i64 xz2)) (fun _ hk => hk.2) (.slice Ao57 xz3.length co57)) (fun _ hk => trivial), by repeat (with_reducible first | exact HB.out | refine below_set ?_ GEz1.out | refine below_set ?_ GEz2.out)⟩
       rw [if_neg c28] at H
       exact absurd H (by simp)
      rw [if_neg c27] at H
      exact absurd H (by simp)
     rw [if_neg c26] at H
     have c26b0 : decide (x24_2 < (l1.length : Int)) = false := decide_eq_false c26
     clear c26
     simp only [Option.some.injEq, Prod.mk.injEq] at H
     obtain ⟨rfl, rfl, rfl, rfl, rfl⟩ := H
     obtain ⟨hcz71_0, hcz71_1, hcz71_2, -⟩ := c4 BKz1.out
     have hcz71_3 : wr.cell? ⟨gbz1, 3, none⟩ = some u16011003 := (blk_cell BKz1.out 3).trans rfl
     obtain ⟨hcz73_0, hcz73_1, hcz73_2, hcz73_3, hfz73_0, hfz73_1, hfz73_2, hfz73_3⟩ := c4 BKz0.out
     obtain ⟨Ao74, co74, eo74⟩ := Kd.R_slice HOz0.out
     subst eo74
     go_wp2
     refine bodyPost_ret (results_ct rfl _ _ gbz2 28 #[.int .i64 xz0, .int .i64 xz1, .int .i64 xz2, .slice Ao74 xz3.length co74] (0, 0) _ rfl (by refine blk_put (cs := #[.int .i64 xz0, .int .i64 xz1, .int .i64 xz2, .slice none 0 0]) ?_ 3 _ rfl; refine blk_put (cs := #[.int .i64 xz0, .int .i64 xz1, .int .i64 xz4, .slice none 0 0]) ?_ 2 _ rfl; refine blk_put (cs := #[.int .i64 xz0, .int .i64 xz5, .int .i64 xz4, .slice none 0 0]) ?_ 1 _ rfl; refine blk_put (cs := #[.int .i64 xz6, .int .i64 xz5, .int .i64 xz4, .slice none 0 0]) ?_ 0 _ rfl; exact BKz0.out) Try.underlying28 rfl (by kernel_rfl)) rfl ?_
     exact ⟨_, by rfl, by exact Kd.R_mono (Kd.R_far (p := ⟨gbz2, 3, none⟩) (Kd.R_far (p := ⟨gbz2, 2, none⟩) (Kd.R_far (p := ⟨gbz2, 1, none⟩) (Kd.R_far (p := ⟨gbz2, 0, none⟩) (Kd.R_types HOz0.out BKz0.out (by decide)) (fun _ hk => hk.2) (.int .i64 xz0)) (fun _ hk => hk.2) (.int .i64 xz1)) (fun _ hk => hk.2) (.int .i64 xz2)) (fun _ hk => hk.2) (.slice Ao74 xz3.length co74)) (fun _ hk => trivial), by repeat (with_reducible first | exact HB.out | refine below_set ?_ GEz1.out)⟩


def impl_DoStep.f (a0_0 : Int) (a0_1 : Int) (a0_2 : Int) (l0_3 : List Int) (a1_0 : Int) (a1_1 : Int) (a1_2 : Int) (a1_3 : Int) (a1_4 : Int) (l1_5 : List Int) : Option (Int × Int × Int × List Int × Bool) := (impl_isImage.f a0_0 a0_1 a0_2 l0_3).bind fun tz1 => (if tz1 = true then ((impl_doStep.f a0_0 a0_1 a0_2 l0_3 a1_0 a1_1 a1_2 a1_3 a1_4 l1_5).bind fun btz0 => (some (btz0.1, btz0.2.1, btz0.2.2.1, btz0.2.2.2.1, btz0.2.2.2.2))) else (some (0, 0, 0, ([] : List Int), false)))
set_option maxHeartbeats 8000000 in
set_option maxRecDepth 100000 in
theorem impl_DoStep.calls (a0_0 : Int) (a0_1 : Int) (a0_2 : Int) (A0_3 : Option Addr) (c0_3 : Nat) (l0_3 : List Int) (a1_0 : Int) (a1_1 : Int) (a1_2 : Int) (a1_3 : Int) (a1_4 : Int) (A1_5 : Option Addr) (c1_5 : Nat) (l1_5 : List Int) (r1 : Int) (r2 : Int) (r3 : Int) (r4 : List Int) (r5 : Bool) (w : World) (hr0_3 : Kd.C (Kd.int .i64) w A0_3 l0_3.length l0_3) (hc0_3 : l0_3.length ≤ c0_3) (hr1_5 : Kd.C (Kd.int .i64) w A1_5 l1_5.length l1_5) (hc1_5 : l1_5.length ≤ c1_5) (h : impl_DoStep.f a0_0 a0_1 a0_2 l0_3 a1_0 a1_1 a1_2 a1_3 a1_4 l1_5 = some (r1, r2, r3, r4, r5)) :
  Calls Try.prog 22 #[.agg #[.int .i64 a0_0, .int .i64 a0_1, .int .i64 a0_2, .slice A0_3 l0_3.length c0_3], .agg #[.int .i64 a1_0, .int .i64 a1_1, .int .i64 a1_2, .int .i64 a1_3, .int .i64 a1_4, .slice A1_5 l1_5.length c1_5]] w fun e w' => ∃ v3_ : Value, e = .returned (.tuple #[.agg #[.int .i64 r1, .int .i64 r2, .int .i64 r3, v3_], .bool r5]) ∧ Kd.R (Kd.int .i64) 3 w' w.heap.size (fun _ => True) v3_ r4 ∧ Below w.heap.size w w' := by
 have hu28 := Try.underlying28
 have hu43 := Try.underlying43
 have HR0_3 := mk hr0_3
 have HC0_3 := mk hc0_3
 clear hr0_3 hc0_3
 have HR1_5 := mk hr1_5
 have HC1_5 := mk hc1_5
 clear hr1_5 hc1_5
 have HB := mk (Below.refl w.heap.size w)
 have H : ((impl_isImage.f a0_0 a0_1 a0_2 l0_3).bind fun tz1 => (if tz1 = true then ((impl_doStep.f a0_0 a0_1 a0_2 l0_3 a1_0 a1_1 a1_2 a1_3 a1_4 l1_5).bind fun btz0 => (some (btz0.1, btz0.2.1, btz0.2.2.1, btz0.2.2.2.1, btz0.2.2.2.2))) else (some (0, 0, 0, ([] : List Int), false)))) = some (r1, r2, r3, r4, r5) := h
 clear h
 replace H := Option.bind_eq_some_iff.mp H
 obtain ⟨tz1, A30, H⟩ := H
 replace H : (if tz1 = true then ((impl_doStep.f a0_0 a0_1 a0_2 l0_3 a1_0 a1_1 a1_2 a1_3 a1_4 l1_5).bind fun btz0 => (some (btz0.1, btz0.2.1, btz0.2.2.1, btz0.2.2.2.1, btz0.2.2.2.2))) else (some (0, 0, 0, ([] : List Int), false))) = some (r1, r2, r3, r4, r5) := H
 have A3 := mk A30
 clear A30
 by_cases c4 : tz1 = true
 ·subst c4
  have H1 : ((impl_doStep.f a0_0 a0_1 a0_2 l0_3 a1_0 a1_1 a1_2 a1_3 a1_4 l1_5).bind fun btz0 => (some (btz0.1, btz0.2.1, btz0.2.2.1, btz0.2.2.2.1, btz0.2.2.2.2))) = some (r1, r2, r3, r4, r5) := by rw [if_pos rfl] at H; exact H
  clear H
  have H := H1
  clear H1
  replace H := Option.bind_eq_some_iff.mp H
  obtain ⟨⟨tz0, tz2, tz3, tz4, tz5⟩, A50, H⟩ := H
  replace H : (some (tz0, tz2, tz3, tz4, tz5)) = some (r1, r2, r3, r4, r5) := H
  have A5 := mk A50
  clear A50
  simp only [Option.some.injEq, Prod.mk.injEq] at H
  obtain ⟨rfl, rfl, rfl, rfl, rfl⟩ := H
  go_enter Try.func22, Try.ntmps22
  go_wp2_with (first | ((with_reducible refine gate_dst (N := 2) rfl ?_); refine box_event (by rfl) (N := 2) (by rfl) (cs := #[.int .i64 a0_0, .int .i64 a0_1, .int .i64 a0_2, .slice A0_3 l0_3.length c0_3]) (t := 28) (by go_simp; done) ?_; intro gbz1 hg w6 hbox hb; replace HB := mk (below_step HB.out hb); have BKz1 := mk (hbox); clear hb hbox hg) | ((with_reducible refine gate_dst (N := 3) rfl ?_); refine box_event (by rfl) (N := 3) (by rfl) (cs := #[.int .i64 a1_0, .int .i64 a1_1, .int .i64 a1_2, .int .i64 a1_3, .int .i64 a1_4, .slice A1_5 l1_5.length c1_5]) (t := 43) (by go_simp; done) ?_; intro gbz2 hg w7 hbox hb; replace BKz1 := mk (blk_below BKz1.out hb); replace HB := mk (below_step HB.out hb); have BKz2 := mk (hbox); clear hb hbox hg) | ((with_reducible refine gate_dst (N := 4) rfl ?_); refine box_event (by rfl) (N := 4) (by rfl) (cs := #[.int .i64 0, .int .i64 0, .int .i64 0, .slice none 0 0]) (t := 28) (by go_simp; done) ?_; intro gbz0 hg w8 hbox hb; replace BKz1 := mk (blk_below BKz1.out hb); replace BKz2 := mk (blk_below BKz2.out hb); have BKz0 := mk (hbox); have GEz0 := mk ((by rw [hg]; exact (below_size HB.out) : w.heap.size ≤ gbz0)); replace HB := mk (below_step HB.out hb); clear hb hbox hg; obtain ⟨hcz11_0, hcz11_1, hcz11_2, -⟩ := c4 BKz1.out; have hcz11_3 : w8.cell? ⟨gbz1, 3, none⟩ = some (.slice A0_3 l0_3.length c0_3) := (blk_cell BKz1.out 3).trans rfl) | ((with_reducible refine gate_callee (f := 43) rfl ?_); refine goesL_ (some 7) rfl rfl Try.func43 (by kernel_rfl) rfl #[.agg #[.int .i64 a0_0, .int .i64 a0_1, .int .i64 a0_2, .slice A0_3 l0_3.length c0_3]] rfl (by (try simp only [List.map_toArray, List.map_cons, List.map_nil]); rfl) ?_; (with_reducible refine (impl_isImage.calls a0_0 a0_1 a0_2 _ _ l0_3 true _ ?side1 ?side2 A3.out).mono ?_); (case side1 => repeat (exact (Kd.C_below HR0_3.out HB.out))); (case side2 => exact HC0_3.out); rintro e w12 ⟨rfl, hb⟩; refine ⟨_, rfl, ?_⟩; replace BKz1 := mk (blk_below BKz1.out hb); replace BKz2 := mk (blk_below BKz2.out hb); replace BKz0 := mk (blk_below BKz0.out hb); replace HB := mk (below_step HB.out hb); (try clear hb); obtain ⟨hcz13_0, hcz13_1, hcz13_2, hcz13_3, -⟩ := c4 BKz1.out; obtain ⟨hcz15_0, hcz15_1, hcz15_2, hcz15_3, hcz15_4, -⟩ := c6 BKz2.out; have hcz15_5 : w12.cell? ⟨gbz2, 5, none⟩ = some (.slice A1_5 l1_5.length c1_5) := (blk_cell BKz2.out 5).trans rfl) | ((with_reducible refine gate_callee (f := 45) rfl ?_); refine goesL_ (some 12) rfl rfl Try.func45 (by kernel_rfl) rfl #[.agg #[.int .i64 a0_0, .int .i64 a0_1, .int .i64 a0_2, .slice A0_3 l0_3.length c0_3], .agg #[.int .i64 a1_0, .int .i64 a1_1, .int .i64 a1_2, .int .i64 a1_3, .int .i64 a1_4, .slice A1_5 l1_5.length c1_5]] rfl (by (try simp only [List.map_toArray, List.map_cons, List.map_nil]); rfl) ?_; (with_reducible refine (impl_doStep.calls a0_0 a0_1 a0_2 _ _ l0_3 a1_0 a1_1 a1_2 a1_3 a1_4 _ _ l1_5 tz0 tz2 tz3 tz4 tz5 _ ?side1 ?side2 ?side3 ?side4 A5.out).mono ?_); (case side1 => repeat (exact (Kd.C_below HR0_3.out HB.out))); (case side2 => exact HC0_3.out); (case side3 => repeat (exact (Kd.C_below HR1_5.out HB.out))); (case side4 => exact HC1_5.out); rintro e w16 ⟨vz0, rfl, ho0, hb⟩; refine ⟨_, rfl, ?_⟩; have n0_ := mk (Kd.R_lower ho0 (below_size HB.out)); have n3_ := mk (blk_below BKz0.out hb); have n4_ := mk (below_step HB.out hb); clear BKz1; clear BKz2; clear BKz0; clear HB; have HOz0 := n0_; have BKz0 := n3_; have HB := n4_; (try clear hb); (try clear ho0); obtain ⟨hcz17_0, hcz17_1, hcz17_2, hcz17_3, hfz17_0, hfz17_1, hfz17_2, hfz17_3⟩ := c4 BKz0.out; obtain ⟨Ao18, co18, eo18⟩ := Kd.R_slice HOz0.out; subst eo18))
  refine bodyPost_ret (results_ct rfl _ _ gbz0 28 #[.int .i64 tz0, .int .i64 tz2, .int .i64 tz3, .slice Ao18 tz4.length co18] (0, 0) _ rfl (by refine blk_put (cs := #[.int .i64 tz0, .int .i64 tz2, .int .i64 tz3, .slice none 0 0]) ?_ 3 _ rfl; refine blk_put (cs := #[.int .i64 tz0, .int .i64 tz2, .int .i64 0, .slice none 0 0]) ?_ 2 _ rfl; refine blk_put (cs := #[.int .i64 tz0, .int .i64 0, .int .i64 0, .slice none 0 0]) ?_ 1 _ rfl; refine blk_put (cs := #[.int .i64 0, .int .i64 0, .int .i64 0, .slice none 0 0]) ?_ 0 _ rfl; exact BKz0.out) Try.underlying28 rfl (by kernel_rfl)) rfl ?_
  exact ⟨_, by rfl, by exact Kd.R_mono (Kd.R_far (p := ⟨gbz0, 3, none⟩) (Kd.R_far (p := ⟨gbz0, 2, none⟩) (Kd.R_far (p := ⟨gbz0, 1, none⟩) (Kd.R_far (p := ⟨gbz0, 0, none⟩) (Kd.R_types HOz0.out BKz0.out (by decide)) (fun _ hk => hk.2) (.int .i64 tz0)) (fun _ hk => hk.2) (.int .i64 tz2)) (fun _ hk => hk.2) (.int .i64 tz3)) (fun _ hk => hk.2) (.slice Ao18 tz4.length co18)) (fun _ hk => trivial), by repeat (with_reducible first | exact HB.out | refine below_set ?_ GEz0.out)⟩
 replace c4 := Bool.eq_false_iff.mpr c4
 subst c4
 have H1 : (some (0, 0, 0, ([] : List Int), false)) = some (r1, r2, r3, r4, r5) := by rw [if_neg (show ¬ (false = true) by decide)] at H; exact H
 clear H
 have H := H1
 clear H1
 simp only [Option.some.injEq, Prod.mk.injEq] at H
 obtain ⟨rfl, rfl, rfl, rfl, rfl⟩ := H
 go_enter Try.func22, Try.ntmps22
 go_wp2_with (first | ((with_reducible refine gate_dst (N := 2) rfl ?_); refine box_event (by rfl) (N := 2) (by rfl) (cs := #[.int .i64 a0_0, .int .i64 a0_1, .int .i64 a0_2, .slice A0_3 l0_3.length c0_3]) (t := 28) (by go_simp; done) ?_; intro gbz1 hg w19 hbox hb; replace HB := mk (below_step HB.out hb); have BKz1 := mk (hbox); clear hb hbox hg) | ((with_reducible refine gate_dst (N := 3) rfl ?_); refine box_event (by rfl) (N := 3) (by rfl) (cs := #[.int .i64 a1_0, .int .i64 a1_1, .int .i64 a1_2, .int .i64 a1_3, .int .i64 a1_4, .slice A1_5 l1_5.length c1_5]) (t := 43) (by go_simp; done) ?_; intro gbz2 hg w20 hbox hb; replace BKz1 := mk (blk_below BKz1.out hb); replace HB := mk (below_step HB.out hb); have BKz2 := mk (hbox); clear hb hbox hg) | ((with_reducible refine gate_dst (N := 4) rfl ?_); refine box_event (by rfl) (N := 4) (by rfl) (cs := #[.int .i64 0, .int .i64 0, .int .i64 0, .slice none 0 0]) (t := 28) (by go_simp; done) ?_; intro gbz0 hg w21 hbox hb; replace BKz1 := mk (blk_below BKz1.out hb); replace BKz2 := mk (blk_below BKz2.out hb); have BKz0 := mk (hbox); have GEz0 := mk ((by rw [hg]; exact (below_size HB.out) : w.heap.size ≤ gbz0)); replace HB := mk (below_step HB.out hb); clear hb hbox hg; obtain ⟨hcz24_0, hcz24_1, hcz24_2, -⟩ := c4 BKz1.out; have hcz24_3 : w21.cell? ⟨gbz1, 3, none⟩ = some (.slice A0_3 l0_3.length c0_3) := (blk_cell BKz1.out 3).trans rfl) | ((with_reducible refine gate_callee (f := 43) rfl ?_); refine goesL_ (some 7) rfl rfl Try.func43 (by kernel_rfl) rfl #[.agg #[.int .i64 a0_0, .int .i64 a0_1, .int .i64 a0_2, .slice A0_3 l0_3.length c0_3]] rfl (by (try simp only [List.map_toArray, List.map_cons, List.map_nil]); rfl) ?_; (with_reducible refine (impl_isImage.calls a0_0 a0_1 a0_2 _ _ l0_3 false _ ?side1 ?side2 A3.out).mono ?_); (case side1 => repeat (exact (Kd.C_below HR0_3.out HB.out))); (case side2 => exact HC0_3.out); rintro e w25 ⟨rfl, hb⟩; refine ⟨_, rfl, ?_⟩; have n2_ := mk (blk_below BKz0.out hb); have n3_ := mk (below_step HB.out hb); clear BKz1; clear BKz2; clear BKz0; clear HB; have BKz0 := n2_; have HB := n3_; (try clear hb); obtain ⟨hcz27_0, hcz27_1, hcz27_2, hcz27_3, hfz27_0, hfz27_1, hfz27_2, hfz27_3⟩ := c4 BKz0.out))
 refine bodyPost_ret (results_ct rfl _ _ gbz0 28 #[.int .i64 0, .int .i64 0, .int .i64 0, .slice none 0 0] (0, 0) _ rfl (by refine blk_put (cs := #[.int .i64 0, .int .i64 0, .int .i64 0, .slice none 0 0]) ?_ 3 _ rfl; refine blk_put (cs := #[.int .i64 0, .int .i64 0, .int .i64 0, .slice none 0 0]) ?_ 2 _ rfl; refine blk_put (cs := #[.int .i64 0, .int .i64 0, .int .i64 0, .slice none 0 0]) ?_ 1 _ rfl; refine blk_put (cs := #[.int .i64 0, .int .i64 0, .int .i64 0, .slice none 0 0]) ?_ 0 _ rfl; exact BKz0.out) Try.underlying28 rfl (by kernel_rfl)) rfl ?_
 exact ⟨_, by rfl, by exact Kd.R_nil _ _ _ _ _, by repeat (with_reducible first | exact HB.out | refine below_set ?_ GEz0.out)⟩

end Go.Proofs.Ytgccpcnakkioiaa.Q

namespace Go.Proofs.Ytgccpcnakkioiaa.Q
open Go.RowKit Go.Proofs.YtgccpcnakkioiaaW.PrintWords Go.Proofs.YtgccpcnakkioiaaW.PrintLast Go.Proofs.YtgccpcnakkioiaaW.PrintMore
attribute [local go_sem] max2_int min2_int max_two min_two max_three min_three max_four min_four
set_option linter.unusedVariables false
set_option linter.unusedSimpArgs false
def laws_equalInts.l0 : Nat → List Int → List Int → Int → Option (Bool)
 | 0, _, _, _ => none
 | k + 1, x0, x1, x5 => if x5 < (x0.length : Int) then (if 0 ≤ x5 then (if x5 < (x1.length : Int) then (if (rd x0 x5) = (rd x1 x5) then (laws_equalInts.l0 k x0 x1 (wrap64 (x5 + 1))) else (some false)) else (none)) else (none)) else (some true)
def laws_equalInts.f (k : Nat) (l0 : List Int) (l1 : List Int) : Option (Bool) := if (l0.length : Int) = (l1.length : Int) then (laws_equalInts.l0 k l0 l1 0) else (some false)
theorem laws_equalInts.mono_l : ∀ k, (∀ y0 y1 y2, LeO (laws_equalInts.l0 k y0 y1 y2) (laws_equalInts.l0 (k + 1) y0 y1 y2))
 | 0 => fun _ _ _ r h => by simp [laws_equalInts.l0] at h
 | k + 1 => by
  have ih0 := laws_equalInts.mono_l k
  ·intro y0 y1 y2
   unfold laws_equalInts.l0
   repeat' first
   | (with_reducible exact ih0 _ _ _)
   | (with_reducible exact LeO.refl _)
   | (with_reducible exact LeO.none _)
   | (with_reducible refine LeO.ite ?_ ?_)
   | (with_reducible refine LeO.bind ?_ (fun _ => ?_))
   | exact ih0 _ _ _
   | exact LeO.none _
   | refine LeO.ite ?_ ?_
   | refine LeO.bind ?_ (fun _ => ?_)
theorem laws_equalInts.mono : ∀ a0 a1 k, LeO (laws_equalInts.f k a0 a1) (laws_equalInts.f (k + 1) a0 a1) := by
 intro a0 a1 k
 have ih0 := laws_equalInts.mono_l k
 unfold laws_equalInts.f
 repeat' first
   | (with_reducible exact ih0 _ _ _)
   | (with_reducible exact LeO.refl _)
   | (with_reducible exact LeO.none _)
   | (with_reducible refine LeO.ite ?_ ?_)
   | (with_reducible refine LeO.bind ?_ (fun _ => ?_))
   | exact ih0 _ _ _
   | exact LeO.none _
   | refine LeO.ite ?_ ?_
   | refine LeO.bind ?_ (fun _ => ?_)
set_option maxHeartbeats 8000000 in
set_option maxRecDepth 100000 in
theorem laws_equalInts.calls (k : Nat) (A0 : Option Addr) (c0 : Nat) (l0 : List Int) (A1 : Option Addr) (c1 : Nat) (l1 : List Int) (r : Bool) (w : World) (hr0 : Kd.C (Kd.int .i64) w A0 l0.length l0) (hc0 : l0.length ≤ c0) (hr1 : Kd.C (Kd.int .i64) w A1 l1.length l1) (hc1 : l1.length ≤ c1) (h : laws_equalInts.f k l0 l1 = some r) :
  Calls Try.prog 52 #[.slice A0 l0.length c0, .slice A1 l1.length c1] w fun e w' => e = .returned (.bool r) ∧ Drawn0 w w' := by
 have HR0 := Aside0.mk hr0
 have HC0 := Aside0.mk hc0
 clear hr0 hc0
 have HR1 := Aside0.mk hr1
 have HC1 := Aside0.mk hc1
 clear hr1 hc1
 have H : (if (l0.length : Int) = (l1.length : Int) then (laws_equalInts.l0 k l0 l1 0) else (some false)) = some r := h
 clear h
 by_cases c3 : (l0.length : Int) = (l1.length : Int)
 ·rw [if_pos c3] at H
  have c3b0 : ((l0.length : Int) == (l1.length : Int)) = true := beq_iff_eq.mpr c3
  have c3b1 : ((l0.length : Int) != (l1.length : Int)) = false := bne_eq_false_iff_eq.mpr c3
  have c3b2 : (l0.length == l1.length) = true := by first | simpa using c3 | (simp at c3 ⊢; omega)
  clear c3
  have H' := Aside0.mk H
  clear H
  go_enter Try.func52, Try.ntmps52
  go_wp2
  repeat (go_quiet (fail); try go_wp2)
  go_loopg [5] k (fun kq v5 w' => ∃ (x5_1 : Int), v5 = .int .i64 x5_1 ∧ Aside0 (laws_equalInts.l0 kq l0 l1 x5_1 = some r) ∧ Aside0 (kq ≤ k) ∧ Drawn0 w w')
  case atStart => exact ⟨(0), (by first | rfl | (simp; done) | (simp [*]; done)), H', ⟨Nat.le_refl _⟩, by repeat (first | exact Drawn0.refl _ | apply Drawn0.step)⟩
  case round =>
   clear H'
   obtain ⟨x5_1, rfl, HA, HK1, ⟨m1, rfl⟩⟩ := hrel
   cases gk with
   | zero => exact absurd HA.out (by simp [laws_equalInts.l0])
   | succ k1 =>
    have H := HA.out
    clear HA
    simp only [laws_equalInts.l0] at H
    by_cases c4 : x5_1 < (l0.length : Int)
    ·rw [if_pos c4] at H
     have c4b0 : decide (x5_1 < (l0.length : Int)) = true := decide_eq_true c4
     clear c4
     by_cases c5 : 0 ≤ x5_1
     ·rw [if_pos c5] at H
      have c5b0 : decide (0 ≤ x5_1) = true := decide_eq_true c5
      clear c5
      by_cases c6 : x5_1 < (l1.length : Int)
      ·rw [if_pos c6] at H
       have c6b0 : decide (x5_1 < (l1.length : Int)) = true := decide_eq_true c6
       clear c6
       by_cases c7 : (rd l0 x5_1) = (rd l1 x5_1)
       ·rw [if_pos c7] at H
        have c7b0 : ((rd l0 x5_1) == (rd l1 x5_1)) = true := beq_iff_eq.mpr c7
        have c7b1 : ((rd l0 x5_1) != (rd l1 x5_1)) = false := bne_eq_false_iff_eq.mpr c7
        clear c7
        have H' := Aside0.mk H
        clear H
        have p53001 : 0 ≤ (x5_1 : Int) := of_decide_eq_true (by first | (with_reducible assumption) | assumption)
        have q53001 : x5_1 < (l0.length : Int) := of_decide_eq_true (by first | (with_reducible assumption) | assumption)
        obtain ⟨ad53001, e53001, hx53001_0⟩ := Kd.at_int HR0.out x5_1 p53001 q53001
        cases e53001
        replace p53001 := eq_true p53001
        replace q53001 := eq_true q53001
        have p53002 : 0 ≤ (x5_1 : Int) := of_decide_eq_true (by first | (with_reducible assumption) | assumption)
        have q53002 : x5_1 < (l1.length : Int) := of_decide_eq_true (by first | (with_reducible assumption) | assumption)
        obtain ⟨ad53002, e53002, hx53002_0⟩ := Kd.at_int HR1.out x5_1 p53002 q53002
        cases e53002
        replace p53002 := eq_true p53002
        replace q53002 := eq_true q53002
        go_wp2
        repeat (go_quiet (fail); try go_wp2)
        go_roundg k1
        case measure => have := HK1.out; omega
        case rel => exact ⟨(wrap64 (x5_1 + 1)), (by first | rfl | (simp; done) | (simp [*]; done)), H', ⟨by have := HK1.out; omega⟩, by repeat (first | exact Drawn0.refl _ | apply Drawn0.step)⟩
       ·rw [if_neg c7] at H
        have c7b0 : ((rd l0 x5_1) == (rd l1 x5_1)) = false := beq_eq_false_iff_ne.mpr c7
        have c7b1 : ((rd l0 x5_1) != (rd l1 x5_1)) = true := bne_iff_ne.mpr c7
        obtain rfl := Option.some.inj H
        have p53001 : 0 ≤ (x5_1 : Int) := of_decide_eq_true (by first | (with_reducible assumption) | assumption)
        have q53001 : x5_1 < (l0.length : Int) := of_decide_eq_true (by first | (with_reducible assumption) | assumption)
        obtain ⟨ad53001, e53001, hx53001_0⟩ := Kd.at_int HR0.out x5_1 p53001 q53001
        cases e53001
        replace p53001 := eq_true p53001
        replace q53001 := eq_true q53001
        have p53002 : 0 ≤ (x5_1 : Int) := of_decide_eq_true (by first | (with_reducible assumption) | assumption)
        have q53002 : x5_1 < (l1.length : Int) := of_decide_eq_true (by first | (with_reducible assumption) | assumption)
        obtain ⟨ad53002, e53002, hx53002_0⟩ := Kd.at_int HR1.out x5_1 p53002 q53002
        cases e53002
        replace p53002 := eq_true p53002
        replace q53002 := eq_true q53002
        go_wp2
        repeat (go_quiet (fail); try go_wp2)
        go_ret
        exact ⟨by first | rfl | (simp; done) | (simp [*]; done), by repeat (first | exact Drawn0.refl _ | apply Drawn0.step)⟩
      ·rw [if_neg c6] at H
       exact absurd H (by simp)
     ·rw [if_neg c5] at H
      exact absurd H (by simp)
    ·rw [if_neg c4] at H
     have c4b0 : decide (x5_1 < (l0.length : Int)) = false := decide_eq_false c4
     clear c4
     obtain rfl := Option.some.inj H
     go_wp2
     repeat (go_quiet (fail); try go_wp2)
     go_ret
     exact ⟨by first | rfl | (simp; done) | (simp [*]; done), by repeat (first | exact Drawn0.refl _ | apply Drawn0.step)⟩
 ·rw [if_neg c3] at H
  have c3b0 : ((l0.length : Int) == (l1.length : Int)) = false := beq_eq_false_iff_ne.mpr c3
  have c3b1 : ((l0.length : Int) != (l1.length : Int)) = true := bne_iff_ne.mpr c3
  have c3b2 : (l0.length == l1.length) = false := by first | simpa using c3 | (simp at c3 ⊢; omega)
  obtain rfl := Option.some.inj H
  go_enter Try.func52, Try.ntmps52
  go_wp2
  repeat (go_quiet (fail); try go_wp2)
  go_ret
  exact ⟨by first | rfl | (simp; done) | (simp [*]; done), by repeat (first | exact Drawn0.refl _ | apply Drawn0.step)⟩

end Go.Proofs.Ytgccpcnakkioiaa.Q

namespace Go.Proofs.Ytgccpcnakkioiaa.Q
open Go.RowKit Go.Proofs.YtgccpcnakkioiaaW.PrintWords Go.Proofs.YtgccpcnakkioiaaW.PrintLast Go.Proofs.YtgccpcnakkioiaaW.PrintMore
open Go.Proofs.YtgccpcnakkioiaaW.PrintWords.Aside0 (mk)
attribute [local go_sem] max2_int min2_int max_two min_two max_three min_three max_four min_four
set_option linter.unusedVariables false
set_option linter.unusedSimpArgs false
def laws_equalImage.f (k : Nat) (a0_0 : Int) (a0_1 : Int) (a0_2 : Int) (l0_3 : List Int) (a1_0 : Int) (a1_1 : Int) (a1_2 : Int) (l1_3 : List Int) : Option Bool := if a0_0 = a1_0 then (if a0_1 = a1_1 then (if a0_2 = a1_2 then ((laws_equalInts.f k l0_3 l1_3).bind fun tz0 => (some tz0)) else (some false)) else (some false)) else (some false)
theorem laws_equalImage.mono : ∀ a0 a1 a2 a3 a4 a5 a6 a7 k, LeO (laws_equalImage.f k a0 a1 a2 a3 a4 a5 a6 a7) (laws_equalImage.f (k + 1) a0 a1 a2 a3 a4 a5 a6 a7) := by
 intro a0 a1 a2 a3 a4 a5 a6 a7 k
 unfold laws_equalImage.f
 repeat' first | (with_reducible exact laws_equalInts.mono _ _ _) | (with_reducible exact LeO.refl _) | (with_reducible refine LeO.ite ?_ ?_) | (with_reducible refine LeO.bind ?_ (fun _ => ?_))
set_option maxHeartbeats 8000000 in
set_option maxRecDepth 100000 in
theorem laws_equalImage.calls (k : Nat) (a0_0 : Int) (a0_1 : Int) (a0_2 : Int) (A0_3 : Option Addr) (c0_3 : Nat) (l0_3 : List Int) (a1_0 : Int) (a1_1 : Int) (a1_2 : Int) (A1_3 : Option Addr) (c1_3 : Nat) (l1_3 : List Int) (r : Bool) (w : World) (hr0_3 : Kd.C (Kd.int .i64) w A0_3 l0_3.length l0_3) (hc0_3 : l0_3.length ≤ c0_3) (hr1_3 : Kd.C (Kd.int .i64) w A1_3 l1_3.length l1_3) (hc1_3 : l1_3.length ≤ c1_3) (h : laws_equalImage.f k a0_0 a0_1 a0_2 l0_3 a1_0 a1_1 a1_2 l1_3 = some r) :
  Calls Try.prog 24 #[.agg #[.int .i64 a0_0, .int .i64 a0_1, .int .i64 a0_2, .slice A0_3 l0_3.length c0_3], .agg #[.int .i64 a1_0, .int .i64 a1_1, .int .i64 a1_2, .slice A1_3 l1_3.length c1_3]] w fun e w' => e = .returned (.bool r) ∧ Below w.heap.size w w' := by
 have hu28 := Try.underlying28
 have HR0_3 := mk hr0_3
 have HC0_3 := mk hc0_3
 clear hr0_3 hc0_3
 have HR1_3 := mk hr1_3
 have HC1_3 := mk hc1_3
 clear hr1_3 hc1_3
 have HB := mk (Below.refl w.heap.size w)
 have H : (if a0_0 = a1_0 then (if a0_1 = a1_1 then (if a0_2 = a1_2 then ((laws_equalInts.f k l0_3 l1_3).bind fun tz0 => (some tz0)) else (some false)) else (some false)) else (some false)) = some r := h
 clear h
 by_cases c3 : a0_0 = a1_0
 ·rw [if_pos c3] at H
  have c3b0 : (a0_0 == a1_0) = true := beq_iff_eq.mpr c3
  have c3b1 : (a0_0 != a1_0) = false := bne_eq_false_iff_eq.mpr c3
  clear c3
  by_cases c4 : a0_1 = a1_1
  ·rw [if_pos c4] at H
   have c4b0 : (a0_1 == a1_1) = true := beq_iff_eq.mpr c4
   have c4b1 : (a0_1 != a1_1) = false := bne_eq_false_iff_eq.mpr c4
   clear c4
   by_cases c5 : a0_2 = a1_2
   ·rw [if_pos c5] at H
    have c5b0 : (a0_2 == a1_2) = true := beq_iff_eq.mpr c5
    have c5b1 : (a0_2 != a1_2) = false := bne_eq_false_iff_eq.mpr c5
    clear c5
    replace H := Option.bind_eq_some_iff.mp H
    obtain ⟨tz0, A60, H⟩ := H
    replace H : (some tz0) = some r := H
    have A6 := mk A60
    clear A60
    obtain rfl := Option.some.inj H
    go_enter Try.func24, Try.ntmps24
    go_wp2_with (first | ((with_reducible refine gate_dst (N := 2) rfl ?_); refine box_event (by rfl) (N := 2) (by rfl) (cs := #[.int .i64 a0_0, .int .i64 a0_1, .int .i64 a0_2, .slice A0_3 l0_3.length c0_3]) (t := 28) (by go_simp; done) ?_; intro gbz0 hg w7 hbox hb; replace HB := mk (below_step HB.out hb); have BKz0 := mk (hbox); clear hb hbox hg) | ((with_reducible refine gate_dst (N := 3) rfl ?_); refine box_event (by rfl) (N := 3) (by rfl) (cs := #[.int .i64 a1_0, .int .i64 a1_1, .int .i64 a1_2, .slice A1_3 l1_3.length c1_3]) (t := 28) (by go_simp; done) ?_; intro gbz1 hg w8 hbox hb; replace BKz0 := mk (blk_below BKz0.out hb); replace HB := mk (below_step HB.out hb); have BKz1 := mk (hbox); clear hb hbox hg; have hcz10_0 : w8.cell? ⟨gbz0, 0, none⟩ = some (.int .i64 a0_0) := (blk_cell BKz0.out 0).trans rfl; have hcz10_1 : w8.cell? ⟨gbz0, 1, none⟩ = some (.int .i64 a0_1) := (blk_cell BKz0.out 1).trans rfl; have hcz10_2 : w8.cell? ⟨gbz0, 2, none⟩ = some (.int .i64 a0_2) := (blk_cell BKz0.out 2).trans rfl; have hcz10_3 : w8.cell? ⟨gbz0, 3, none⟩ = some (.slice A0_3 l0_3.length c0_3) := (blk_cell BKz0.out 3).trans rfl; have hcz11_0 : w8.cell? ⟨gbz1, 0, none⟩ = some (.int .i64 a1_0) := (blk_cell BKz1.out 0).trans rfl; have hcz11_1 : w8.cell? ⟨gbz1, 1, none⟩ = some (.int .i64 a1_1) := (blk_cell BKz1.out 1).trans rfl; have hcz11_2 : w8.cell? ⟨gbz1, 2, none⟩ = some (.int .i64 a1_2) := (blk_cell BKz1.out 2).trans rfl; have hcz11_3 : w8.cell? ⟨gbz1, 3, none⟩ = some (.slice A1_3 l1_3.length c1_3) := (blk_cell BKz1.out 3).trans rfl) | (go_at_call 52; (with_reducible refine (laws_equalInts.calls k _ _ l0_3 _ _ l1_3 tz0 _ ?side1 ?side2 ?side3 ?side4 A6.out).mono ?_); (case side1 => repeat (exact (Kd.C_below HR0_3.out HB.out))); (case side2 => exact HC0_3.out); (case side3 => repeat (exact (Kd.C_below HR1_3.out HB.out))); (case side4 => exact HC1_3.out); rintro e w' ⟨rfl, ⟨nd, rfl⟩⟩))
    go_ret
    exact ⟨by rfl, by repeat (with_reducible first | exact HB.out | apply pw_below_drewN)⟩
   rw [if_neg c5] at H
   have c5b0 : (a0_2 == a1_2) = false := beq_eq_false_iff_ne.mpr c5
   have c5b1 : (a0_2 != a1_2) = true := bne_iff_ne.mpr c5
   obtain rfl := Option.some.inj H
   go_enter Try.func24, Try.ntmps24
   go_wp2_with (first | ((with_reducible refine gate_dst (N := 2) rfl ?_); refine box_event (by rfl) (N := 2) (by rfl) (cs := #[.int .i64 a0_0, .int .i64 a0_1, .int .i64 a0_2, .slice A0_3 l0_3.length c0_3]) (t := 28) (by go_simp; done) ?_; intro gbz0 hg w12 hbox hb; replace HB := mk (below_step HB.out hb); have BKz0 := mk (hbox); clear hb hbox hg) | ((with_reducible refine gate_dst (N := 3) rfl ?_); refine box_event (by rfl) (N := 3) (by rfl) (cs := #[.int .i64 a1_0, .int .i64 a1_1, .int .i64 a1_2, .slice A1_3 l1_3.length c1_3]) (t := 28) (by go_simp; done) ?_; intro gbz1 hg w13 hbox hb; replace BKz0 := mk (blk_below BKz0.out hb); replace HB := mk (below_step HB.out hb); have BKz1 := mk (hbox); clear hb hbox hg; have hcz15_0 : w13.cell? ⟨gbz0, 0, none⟩ = some (.int .i64 a0_0) := (blk_cell BKz0.out 0).trans rfl; have hcz15_1 : w13.cell? ⟨gbz0, 1, none⟩ = some (.int .i64 a0_1) := (blk_cell BKz0.out 1).trans rfl; have hcz15_2 : w13.cell? ⟨gbz0, 2, none⟩ = some (.int .i64 a0_2) := (blk_cell BKz0.out 2).trans rfl; have hcz16_0 : w13.cell? ⟨gbz1, 0, none⟩ = some (.int .i64 a1_0) := (blk_cell BKz1.out 0).trans rfl; have hcz16_1 : w13.cell? ⟨gbz1, 1, none⟩ = some (.int .i64 a1_1) := (blk_cell BKz1.out 1).trans rfl; have hcz16_2 : w13.cell? ⟨gbz1, 2, none⟩ = some (.int .i64 a1_2) := (blk_cell BKz1.out 2).trans rfl))
   go_ret
   exact ⟨by rfl, by exact HB.out⟩
  rw [if_neg c4] at H
  have c4b0 : (a0_1 == a1_1) = false := beq_eq_false_iff_ne.mpr c4
  have c4b1 : (a0_1 != a1_1) = true := bne_iff_ne.mpr c4
  obtain rfl := Option.some.inj H
  go_enter Try.func24, Try.ntmps24
  go_wp2_with (first | ((with_reducible refine gate_dst (N := 2) rfl ?_); refine box_event (by rfl) (N := 2) (by rfl) (cs := #[.int .i64 a0_0, .int .i64 a0_1, .int .i64 a0_2, .slice A0_3 l0_3.length c0_3]) (t := 28) (by go_simp; done) ?_; intro gbz0 hg w17 hbox hb; replace HB := mk (below_step HB.out hb); have BKz0 := mk (hbox); clear hb hbox hg) | ((with_reducible refine gate_dst (N := 3) rfl ?_); refine box_event (by rfl) (N := 3) (by rfl) (cs := #[.int .i64 a1_0, .int .i64 a1_1, .int .i64 a1_2, .slice A1_3 l1_3.length c1_3]) (t := 28) (by go_simp; done) ?_; intro gbz1 hg w18 hbox hb; replace BKz0 := mk (blk_below BKz0.out hb); replace HB := mk (below_step HB.out hb); have BKz1 := mk (hbox); clear hb hbox hg; have hcz20_0 : w18.cell? ⟨gbz0, 0, none⟩ = some (.int .i64 a0_0) := (blk_cell BKz0.out 0).trans rfl; have hcz20_1 : w18.cell? ⟨gbz0, 1, none⟩ = some (.int .i64 a0_1) := (blk_cell BKz0.out 1).trans rfl; have hcz21_0 : w18.cell? ⟨gbz1, 0, none⟩ = some (.int .i64 a1_0) := (blk_cell BKz1.out 0).trans rfl; have hcz21_1 : w18.cell? ⟨gbz1, 1, none⟩ = some (.int .i64 a1_1) := (blk_cell BKz1.out 1).trans rfl))
  go_ret
  exact ⟨by rfl, by exact HB.out⟩
 rw [if_neg c3] at H
 have c3b0 : (a0_0 == a1_0) = false := beq_eq_false_iff_ne.mpr c3
 have c3b1 : (a0_0 != a1_0) = true := bne_iff_ne.mpr c3
 obtain rfl := Option.some.inj H
 go_enter Try.func24, Try.ntmps24
 go_wp2_with (first | ((with_reducible refine gate_dst (N := 2) rfl ?_); refine box_event (by rfl) (N := 2) (by rfl) (cs := #[.int .i64 a0_0, .int .i64 a0_1, .int .i64 a0_2, .slice A0_3 l0_3.length c0_3]) (t := 28) (by go_simp; done) ?_; intro gbz0 hg w22 hbox hb; replace HB := mk (below_step HB.out hb); have BKz0 := mk (hbox); clear hb hbox hg) | ((with_reducible refine gate_dst (N := 3) rfl ?_); refine box_event (by rfl) (N := 3) (by rfl) (cs := #[.int .i64 a1_0, .int .i64 a1_1, .int .i64 a1_2, .slice A1_3 l1_3.length c1_3]) (t := 28) (by go_simp; done) ?_; intro gbz1 hg w23 hbox hb; replace BKz0 := mk (blk_below BKz0.out hb); replace HB := mk (below_step HB.out hb); have BKz1 := mk (hbox); clear hb hbox hg; have hcz25_0 : w23.cell? ⟨gbz0, 0, none⟩ = some (.int .i64 a0_0) := (blk_cell BKz0.out 0).trans rfl; have hcz26_0 : w23.cell? ⟨gbz1, 0, none⟩ = some (.int .i64 a1_0) := (blk_cell BKz1.out 0).trans rfl))
 go_ret
 exact ⟨by rfl, by exact HB.out⟩


def IsS90 (w0 W : World) (g : Nat) (f0 : List Int) (f1 : Int) : Prop := ∃ A0 c0, W.heap[g]? = some (.cells #[.slice A0 f0.length c0, .int .i64 f1] 90 (0, 0)) ∧ w0.heap.size ≤ g ∧ Kd.C (Kd.int .u8) w0 A0 f0.length f0
theorem IsS90.grown {w0 W : World} {g : Nat} {f0 : List Int} {f1 : Int} {W1 : World} {row : Option Nat} (h : IsS90 w0 W g f0 f1) (hw : W.grownBy W1 row) (hne : some g ≠ row) : IsS90 w0 W1 g f0 f1 := by
 obtain ⟨A0, c0, hb, hg, hr0⟩ := h
 exact ⟨A0, c0, blk_grown hb hw hne, hg, hr0⟩
theorem IsS90.own_neN {w0 W : World} {g : Nat} {f0 : List Int} {f1 : Int} {α : Type} {d : Kd α} {e : Nat} {base : Nat} {ok : Nat → Prop} {v : Value} {xs : List α} (h : IsS90 w0 W g f0 f1) (ho : Kd.N d e W base ok v xs) (ht : e ≠ 90) : some g ≠ v.ownBlock := by
 obtain ⟨A0, c0, hb, hg, hr0⟩ := h
 exact Kd.N_ne ho hb ht
theorem IsS90.fresh {w0 W : World} {g : Nat} {f0 : List Int} {f1 : Int} (h : IsS90 w0 W g f0 f1) : ∀ k, W.heap.size ≤ k → k ≠ g := by
 obtain ⟨A0, c0, hb, hg, hr0⟩ := h
 exact Kd.freshB hb
theorem IsS90.kept {w0 W : World} {g : Nat} {f0 : List Int} {f1 : Int} {W1 : World} {S : Nat → Prop} (h : IsS90 w0 W g f0 f1) (hk : Kept W W1 S) (hne : ¬ S g) : IsS90 w0 W1 g f0 f1 := by
 obtain ⟨A0, c0, hb, hg, hr0⟩ := h
 exact ⟨A0, c0, blk_kept hb hk hne, hg, hr0⟩
theorem IsS90.below {w0 W : World} {g : Nat} {f0 : List Int} {f1 : Int} {W1 : World} (h : IsS90 w0 W g f0 f1) (hw : Below W.heap.size W W1) : IsS90 w0 W1 g f0 f1 := h.grown (grown_of_below hw none) (by simp)
theorem IsS90.alloc {w0 W : World} {g : Nat} {f0 : List Int} {f1 : Int} (h : IsS90 w0 W g f0 f1) (o : Obj) : IsS90 w0 (W.alloc o) g f0 f1 := h.below (below_alloc (Below.refl _ _) o)
theorem IsS90.drewN {w0 W : World} {g : Nat} {f0 : List Int} {f1 : Int} (h : IsS90 w0 W g f0 f1) (m : Nat) : IsS90 w0 (W.drewN m) g f0 f1 := h
theorem IsS90.drew {w0 W : World} {g : Nat} {f0 : List Int} {f1 : Int} (h : IsS90 w0 W g f0 f1) : IsS90 w0 W.drew g f0 f1 := h
theorem IsS90.at_ {w0 W : World} {g : Nat} {f0 : List Int} {f1 : Int} {w' : World} {m : Nat} (hq : W.drewN m = w') (h : IsS90 w0 W g f0 f1) : IsS90 w0 w' g f0 f1 := by subst hq; exact IsS90.drewN h m
theorem IsS90.apart {w0 W : World} {g : Nat} {f0 : List Int} {f1 : Int} {α : Type} {d : Kd α} {e : Nat} {base : Nat} {ok : Nat → Prop} {v : Value} {xs : List α} (h : IsS90 w0 W g f0 f1) (ho : d.R e W base ok v xs) (ht : ∀ q, q ∈ e :: d.E → q ≠ 90) : d.R e W base (fun k => ok k ∧ k ≠ g) v xs := by
 obtain ⟨A0, c0, hb, hg, hr0⟩ := h
 exact Kd.R_types ho hb ht
theorem IsS90.own_ne {w0 W : World} {g : Nat} {f0 : List Int} {f1 : Int} {α : Type} {d : Kd α} {e : Nat} {base : Nat} {ok : Nat → Prop} {v : Value} {xs : List α} (h : IsS90 w0 W g f0 f1) (ho : d.R e W base ok v xs) (ht : e ≠ 90) : some g ≠ v.ownBlock := by
 obtain ⟨A0, c0, hb, hg, hr0⟩ := h
 exact Kd.R_ne ho hb ht
theorem IsS90.apartQ {w0 W : World} {g : Nat} {f0 : List Int} {f1 : Int} {α : Type} {d : Kd α} {e : Nat} {base : Nat} {ok : Nat → Prop} {v : Value} {xs : List α} (h : IsS90 w0 W g f0 f1) (ho : d.Q e W base ok v xs) (ht : ∀ q, q ∈ e :: d.E → q ≠ 90) : d.Q e W base (fun k => ok k ∧ k ≠ g) v xs := by
 obtain ⟨A0, c0, hb, hg, hr0⟩ := h
 exact Kd.Q_types ho hb ht
theorem IsS90.own_neQ {w0 W : World} {g : Nat} {f0 : List Int} {f1 : Int} {α : Type} {d : Kd α} {e : Nat} {base : Nat} {ok : Nat → Prop} {v : Value} {xs : List α} (h : IsS90 w0 W g f0 f1) (ho : d.Q e W base ok v xs) (ht : e ≠ 90) : some g ≠ v.ownBlock := by
 obtain ⟨A0, c0, hb, hg, hr0⟩ := h
 exact Kd.Q_ne ho hb ht
theorem IsS90.apartS {w0 W : World} {g : Nat} {f0 : List Int} {f1 : Int} {α : Type} {d : Kd α} {e : Nat} {base : Nat} {ok : Nat → Prop} {v : Value} {xs : List α} (h : IsS90 w0 W g f0 f1) (ho : d.S e W base ok v xs) (ht : ∀ q, q ∈ e :: d.E → q ≠ 90) : d.S e W base (fun k => ok k ∧ k ≠ g) v xs := by
 obtain ⟨A0, c0, hb, hg, hr0⟩ := h
 exact Kd.S_types ho hb ht
theorem IsS90.own_neS {w0 W : World} {g : Nat} {f0 : List Int} {f1 : Int} {α : Type} {d : Kd α} {e : Nat} {base : Nat} {ok : Nat → Prop} {v : Value} {xs : List α} (h : IsS90 w0 W g f0 f1) (ho : d.S e W base ok v xs) (ht : e ≠ 90) : some g ≠ v.ownBlock := by
 obtain ⟨A0, c0, hb, hg, hr0⟩ := h
 exact Kd.S_ne ho hb ht
theorem IsS90.lt {w0 W : World} {g : Nat} {f0 : List Int} {f1 : Int} (h : IsS90 w0 W g f0 f1) : g < W.heap.size := by
 obtain ⟨A0, c0, hb, hg, hr0⟩ := h
 exact blk_lt hb
theorem IsS90.ge {w0 W : World} {g : Nat} {f0 : List Int} {f1 : Int} (h : IsS90 w0 W g f0 f1) : w0.heap.size ≤ g := by
 obtain ⟨A0, c0, hb, hg, hr0⟩ := h
 exact hg
theorem IsS90.ne_blk {w0 W : World} {g : Nat} {f0 : List Int} {f1 : Int} {a : Nat} {cs : Array Value} {t : TypeId} {fr : Nat × Nat} (h : IsS90 w0 W g f0 f1) (hb2 : W.heap[a]? = some (.cells cs t fr)) (ht : t ≠ 90) : g ≠ a := by
 obtain ⟨A0, c0, hb, hg, hr0⟩ := h
 rintro rfl
 rw [hb] at hb2
 injection hb2 with hb2
 injection hb2 with _ ht2
 exact ht ht2.symm
theorem IsS90.far {w0 W : World} {g : Nat} {f0 : List Int} {f1 : Int} {p : Addr} (h : IsS90 w0 W g f0 f1) (hne : g ≠ p.block) (u : Value) : IsS90 w0 (W.setCell p u) g f0 f1 := by
 obtain ⟨A0, c0, hb, hg, hr0⟩ := h
 exact ⟨A0, c0, blk_far hb hne u, hg, hr0⟩
theorem cellS90_0 {W : World} {g : Nat} {A0 : Option Addr} {c0 : Nat} {f0 : List Int} {f1 : Int} (h : W.heap[g]? = some (.cells #[.slice A0 f0.length c0, .int .i64 f1] 90 (0, 0))) : W.cell? ⟨g, 0, none⟩ = some (.slice A0 f0.length c0) := (blk_cell h 0).trans rfl
theorem cellS90_1 {W : World} {g : Nat} {A0 : Option Addr} {c0 : Nat} {f0 : List Int} {f1 : Int} (h : W.heap[g]? = some (.cells #[.slice A0 f0.length c0, .int .i64 f1] 90 (0, 0))) : W.cell? ⟨g, 1, none⟩ = some (.int .i64 f1) := (blk_cell h 1).trans rfl
theorem IsS90.set_1 {w0 W : World} {g : Nat} {f0 : List Int} {f1 : Int} (h : IsS90 w0 W g f0 f1) (x : Int) : IsS90 w0 (W.setCell ⟨g, 1, none⟩ (.int .i64 x)) g f0 x := by
 obtain ⟨A0, c0, hb, hg, hr0⟩ := h
 exact ⟨A0, c0, by simpa using blk_set hb 1 (.int .i64 x), hg, hr0⟩
theorem IsS90.new (w0 W : World) (A0 : Option Addr) (c0 : Nat) (f0 : List Int) (f1 : Int) (hB : Below w0.heap.size w0 W) (hr0 : Kd.C (Kd.int .u8) w0 A0 f0.length f0) : IsS90 w0 (W.alloc (.cells #[.slice A0 f0.length c0, .int .i64 f1] 90)) W.heap.size f0 f1 := ⟨A0, c0, by simpa using heap_alloc_new W _, hB.size, hr0⟩

def spec_newReader.f (l0 : List Int) : Option (List Int × Int) := if (l0.length : Int) > 2000 then (if 2000 ≤ (l0.length : Int) then (some (l0.take 2000, 0)) else (none)) else (some (l0, 0))
set_option maxHeartbeats 8000000 in
set_option maxRecDepth 100000 in
theorem spec_newReader.calls (A0 : Option Addr) (c0 : Nat) (l0 : List Int) (r1 : List Int) (r2 : Int) (w0 w : World) (hB : Below w0.heap.size w0 w) (hr0 : Kd.C (Kd.int .u8) w0 A0 l0.length l0) (hc0 : l0.length ≤ c0) (h : spec_newReader.f l0 = some (r1, r2)) :
  Calls Try.prog 49 #[.slice A0 l0.length c0] w fun e w' => ∃ g_ : Nat, e = .returned (.pointer (some ⟨g_, 0, none⟩)) ∧ IsS90 w0 w' g_ r1 r2 ∧ Below w0.heap.size w0 w' ∧ Below w.heap.size w w' := by
 have hu90 := Try.underlying90
 have HR0 := mk hr0
 have HC0 := mk hc0
 clear hr0 hc0
 have HBW := mk (Below.refl w.heap.size w)
 have HW0 := mk hB.size
 have HB := mk hB
 clear hB
 have H : (if (l0.length : Int) > 2000 then (if 2000 ≤ (l0.length : Int) then (some (l0.take 2000, 0)) else (none)) else (some (l0, 0))) = some (r1, r2) := h
 clear h
 by_cases c2 : (l0.length : Int) > 2000
 ·rw [if_pos c2] at H
  have c2b0 : decide (2000 < (l0.length : Int)) = true := decide_eq_true c2
  have c2b1 : decide (2000 < l0.length) = true := decide_eq_true (by omega)
  clear c2
  by_cases c3 : 2000 ≤ (l0.length : Int)
  ·rw [if_pos c3] at H
   have c3b0 := eq_true c3
   have c3b1 : decide (2000 ≤ (l0.length : Int)) = true := decide_eq_true c3
   clear c3
   simp only [Option.some.injEq, Prod.mk.injEq] at H
   obtain ⟨rfl, rfl⟩ := H
   obtain ⟨i04, hi04, _, hsz4, _⟩ := info_parts info5
   obtain ⟨hcut4, hA4, hC4⟩ := print_take_of (P := Try.prog) (Value.int .u8) 0 39 5 .i64 Try.underlying39 hi04 hsz4 A0 c0 l0 2000 (by omega) (of_decide_eq_true (by first | (with_reducible assumption) | assumption)) HC0.out
   have HR50001 := mk (Kd.C_of_reads (h1 := fun _ => rfl) (hA4 _ (Kd.reads_of_C HR0.out)))
   have HC50001 := mk hC4
   clear hA4 hC4 hi04 hsz4
   go_enter Try.func49, Try.ntmps49
   go_wp2_with (first | ((with_reducible refine gate_dst (N := 10) rfl ?_); refine box_event ?hg (N := 10) ?hd (cs := #[.slice A0 (l0.take 2000).length c0, .int .i64 0]) (t := 90) ?hr ?_; (case hd => rfl); (case hg => rfl); (case hr => first | (go_simp; done) | (go_simp; rfl)); intro gbz0 hg w5 hbox hb; replace HB := mk (below_step (by repeat (first | (with_reducible first | exact HB.out | apply below_alloc | apply pw_below_drewN | apply below_drew1) | exact HB.out)) hb); have BKz0 := mk (hbox); have GEz0 := mk ((Nat.le_trans HW0.out (by rw [hg]; exact (below_size (by repeat (first | (with_reducible first | exact HBW.out | apply below_alloc | apply pw_below_drewN | apply below_drew1) | exact HBW.out))) : w.heap.size ≤ gbz0) : w0.heap.size ≤ gbz0)); replace HBW := mk (below_step HBW.out hb); clear hb hbox hg))
   go_ret
   exact ⟨_, rfl, (show IsS90 w0 _ gbz0 (l0.take 2000) 0 from ⟨_, _, by exact BKz0.out, GEz0.out, HR50001.out⟩), by repeat (first | (with_reducible first | exact HB.out | apply below_alloc | apply pw_below_drewN | apply below_drew1 | refine below_set ?_ GEz0.out) | exact HB.out), by repeat (first | (with_reducible first | exact HBW.out | apply below_alloc | apply pw_below_drewN | apply below_drew1 | refine below_set ?_ GWz0.out) | exact HBW.out)⟩
  rw [if_neg c3] at H
  exact absurd H (by simp)
 rw [if_neg c2] at H
 have c2b0 : decide (2000 < (l0.length : Int)) = false := decide_eq_false c2
 have c2b1 : decide (2000 < l0.length) = false := decide_eq_false (by omega)
 clear c2
 simp only [Option.some.injEq, Prod.mk.injEq] at H
 obtain ⟨rfl, rfl⟩ := H
 go_enter Try.func49, Try.ntmps49
 go_wp2_with (first | ((with_reducible refine gate_dst (N := 10) rfl ?_); refine box_event ?hg (N := 10) ?hd (cs := #[.slice A0 l0.length c0, .int .i64 0]) (t := 90) ?hr ?_; (case hd => rfl); (case hg => rfl); (case hr => first | (go_simp; done) | (go_simp; rfl)); intro gbz1 hg w6 hbox hb; replace HB := mk (below_step (by repeat (first | (with_reducible first | exact HB.out | apply below_alloc | apply pw_below_drewN | apply below_drew1) | exact HB.out)) hb); have BKz1 := mk (hbox); have GEz1 := mk ((Nat.le_trans HW0.out (by rw [hg]; exact (below_size (by repeat (first | (with_reducible first | exact HBW.out | apply below_alloc | apply pw_below_drewN | apply below_drew1) | exact HBW.out))) : w.heap.size ≤ gbz1) : w0.heap.size ≤ gbz1)); replace HBW := mk (below_step HBW.out hb); clear hb hbox hg))
 go_ret
 exact ⟨_, rfl, (show IsS90 w0 _ gbz1 l0 0 from ⟨_, _, by exact BKz1.out, GEz1.out, HR0.out⟩), by repeat (first | (with_reducible first | exact HB.out | apply below_alloc | apply pw_below_drewN | apply below_drew1 | refine below_set ?_ GEz1.out) | exact HB.out), by repeat (first | (with_reducible first | exact HBW.out | apply below_alloc | apply pw_below_drewN | apply below_drew1 | refine below_set ?_ GWz1.out) | exact HBW.out)⟩

end Go.Proofs.Ytgccpcnakkioiaa.Q

namespace Go.Proofs.Ytgccpcnakkioiaa.Q
open Go.RowKit Go.Proofs.YtgccpcnakkioiaaW.PrintWords Go.Proofs.YtgccpcnakkioiaaW.PrintLast Go.Proofs.YtgccpcnakkioiaaW.PrintMore
attribute [local go_sem] max2_int min2_int max_two min_two max_three min_three max_four min_four
set_option linter.unusedVariables false
set_option linter.unusedSimpArgs false
def spec_reader_pick.j0 : Nat → Int → Bool → List Int → Int → Option (Int × Int)
 | 0, _, _, _, _ => none
 | k + 1, x1, x24, x1000, x1001 => if x24 = true then (some (0, x1001)) else (if (wrap64 (x1001 - 1)) < (x1000.length : Int) then (if 0 ≤ (wrap64 (x1001 - 1)) then (if x1 = 0 then (none) else (some (Int.tmod (wrap64 (rd x1000 (wrap64 (x1001 - 1)))) x1, x1001))) else (none)) else (if (x1000.length : Int) = 0 then (none) else (if 0 ≤ (Int.tmod (wrap64 (x1001 - 1)) (x1000.length : Int)) then (if (Int.tmod (wrap64 (x1001 - 1)) (x1000.length : Int)) < (x1000.length : Int) then (if 0 ≤ (Int.tmod (wrap64 ((wrap64 ((wrap64 (x1001 - 1)) * 7)) + 3)) (x1000.length : Int)) then (if (Int.tmod (wrap64 ((wrap64 ((wrap64 (x1001 - 1)) * 7)) + 3)) (x1000.length : Int)) < (x1000.length : Int) then (if x1 = 0 then (none) else (some (Int.tmod (Go.bits .xor .i64 (wrap64 ((wrap64 ((wrap64 ((wrap64 ((wrap64 (rd x1000 (Int.tmod (wrap64 (x1001 - 1)) (x1000.length : Int)))) * 131)) + (wrap64 ((wrap64 (rd x1000 (Int.tmod (wrap64 ((wrap64 ((wrap64 (x1001 - 1)) * 7)) + 3)) (x1000.length : Int)))) * 1117)))) + (wrap64 ((wrap64 (x1001 - 1)) * 29)))) + (wrap64 ((wrap64 (Int.tdiv (wrap64 (x1001 - 1)) (x1000.length : Int))) * 53)))) (wrap64 (Int.tdiv (wrap64 ((wrap64 ((wrap64 ((wrap64 ((wrap64 (rd x1000 (Int.tmod (wrap64 (x1001 - 1)) (x1000.length : Int)))) * 131)) + (wrap64 ((wrap64 (rd x1000 (Int.tmod (wrap64 ((wrap64 ((wrap64 (x1001 - 1)) * 7)) + 3)) (x1000.length : Int)))) * 1117)))) + (wrap64 ((wrap64 (x1001 - 1)) * 29)))) + (wrap64 ((wrap64 (Int.tdiv (wrap64 (x1001 - 1)) (x1000.length : Int))) * 53)))) 64))) x1, x1001))) else (none)) else (none)) else (none)) else (none))))
def spec_reader_pick.f (k : Nat) (s0_0 : List Int) (s0_1 : Int) (a1 : Int) : Option (Int × Int) := if a1 < 1 then (spec_reader_pick.j0 k a1 true s0_0 (wrap64 (s0_1 + 1))) else (spec_reader_pick.j0 k a1 ((s0_0.length : Int) == 0) s0_0 (wrap64 (s0_1 + 1)))
theorem spec_reader_pick.mono_l : ∀ k, (∀ y0 y1 y2 y3, LeO (spec_reader_pick.j0 k y0 y1 y2 y3) (spec_reader_pick.j0 (k + 1) y0 y1 y2 y3))
 | 0 => fun _ _ _ _ r h => by simp [spec_reader_pick.j0] at h
 | k + 1 => by
  have ih0 := spec_reader_pick.mono_l k
  ·intro y0 y1 y2 y3
   unfold spec_reader_pick.j0
   repeat' first
   | (with_reducible exact ih0 _ _ _ _)
   | (with_reducible exact LeO.refl _)
   | (with_reducible exact LeO.none _)
   | (with_reducible refine LeO.ite ?_ ?_)
   | (with_reducible refine LeO.bind ?_ (fun _ => ?_))
   | exact ih0 _ _ _ _
   | exact LeO.none _
   | refine LeO.ite ?_ ?_
   | refine LeO.bind ?_ (fun _ => ?_)
theorem spec_reader_pick.mono : ∀ a0 a1 a2 k, LeO (spec_reader_pick.f k a0 a1 a2) (spec_reader_pick.f (k + 1) a0 a1 a2) := by
 intro a0 a1 a2 k
 have ih0 := spec_reader_pick.mono_l k
 unfold spec_reader_pick.f
 repeat' first
   | (with_reducible exact ih0 _ _ _ _)
   | (with_reducible exact LeO.refl _)
   | (with_reducible exact LeO.none _)
   | (with_reducible refine LeO.ite ?_ ?_)
   | (with_reducible refine LeO.bind ?_ (fun _ => ?_))
   | exact ih0 _ _ _ _
   | exact LeO.none _
   | refine LeO.ite ?_ ?_
   | refine LeO.bind ?_ (fun _ => ?_)
set_option maxHeartbeats 8000000 in
set_option maxRecDepth 100000 in
theorem spec_reader_pick.calls (k : Nat) (g : Nat) (s0_0 : List Int) (s0_1 : Int) (a1 : Int) (r1 : Int) (r2 : Int) (w0 w : World) (hI : IsS90 w0 w g s0_0 s0_1) (hB : Below w0.heap.size w0 w) (h : spec_reader_pick.f k s0_0 s0_1 a1 = some (r1, r2)) :
  Calls Try.prog 90 #[.pointer (some ⟨g, 0, none⟩), .int .i64 a1] w fun e w' => e = .returned (.int .i64 r1) ∧ IsS90 w0 w' g s0_0 r2 ∧ Below w0.heap.size w0 w' ∧ KeepBut w w' g none := by
 have HI0 := Aside0.mk hI
 have HK := Aside0.mk (KeepBut.refl w g none)
 clear hI
 have HB := Aside0.mk hB
 clear hB
 have H : (if a1 < 1 then (spec_reader_pick.j0 k a1 true s0_0 (wrap64 (s0_1 + 1))) else (spec_reader_pick.j0 k a1 ((s0_0.length : Int) == 0) s0_0 (wrap64 (s0_1 + 1)))) = some (r1, r2) := h
 clear h
 have HC3 := Aside0.mk H
 clear H
 obtain ⟨ASz4_0, cSz4_0, HGz4, hgz4, HSz4_0⟩ := HI0.out
 have hcz4_0 := cellS90_0 HGz4
 have hcz4_1 := cellS90_1 HGz4
 have hfz4_1 := blk_frozen HGz4 1
 clear HGz4 hgz4
 go_enter Try.func90, Try.ntmps90
 go_upto_region 2 with (fail)
 repeat (go_quiet (fail); go_upto_region 2 with (fail))
 go_cut [24] (fun v24 wc => ∃ (kq : Nat) (x24_2 : Bool), v24 = .bool x24_2 ∧ Aside0 (spec_reader_pick.j0 kq a1 x24_2 s0_0 (wrap64 (s0_1 + 1)) = some (r1, r2)) ∧ Aside0 (kq ≤ k) ∧ Aside0 (IsS90 w0 wc g s0_0 (wrap64 (s0_1 + 1))) ∧ Aside0 (KeepBut w wc g none) ∧ Aside0 (Below w0.heap.size w0 wc))
 case first =>
  have H := HC3.out
  clear HC3
  by_cases c5 : a1 < 1
  ·rw [if_pos c5] at H
   have c5b0 : decide (a1 < 1) = true := decide_eq_true c5
   clear c5
   (first | rw [c5b0] | (simp only [i64_w, i32_w]; rw [c5b0]) | skip)
   have H' := Aside0.mk H
   clear H
   go_wp2
   repeat (go_quiet (fail); try go_wp2)
   go_meet
   case rel => exact ⟨_, (true), (by first | rfl | (simp; done) | (simp [*]; done)), H', ⟨by first | omega | exact Nat.le_refl _⟩, ⟨by repeat (first | (with_reducible first | exact HI0.out | apply IsS90.alloc | apply IsS90.drewN | apply IsS90.drew | apply IsS90.set_1) | exact HI0.out)⟩, ⟨by repeat (first | (with_reducible first | exact HK.out | apply KeepBut.set_ | apply keep_drewN | apply keep_drew | apply keep_alloc) | exact HK.out)⟩, ⟨by repeat (first | (with_reducible first | exact HB.out | apply below_alloc | apply pw_below_drewN | apply below_drew1 | refine below_set ?_ (IsS90.ge HI0.out)) | exact HB.out)⟩⟩
  rw [if_neg c5] at H
  have c5b0 : decide (a1 < 1) = false := decide_eq_false c5
  clear c5
  (first | rw [c5b0] | (simp only [i64_w, i32_w]; rw [c5b0]) | skip)
  have H' := Aside0.mk H
  clear H
  obtain ⟨ASz6_0, cSz6_0, HGz6, hgz6, HSz6_0⟩ := HI0.out
  clear HGz6 hgz6
  go_wp2
  repeat (go_quiet (fail); try go_wp2)
  go_meet
  case rel => exact ⟨_, (((s0_0.length : Int) == 0)), (by first | rfl | (simp; done) | (simp [*]; done)), H', ⟨by first | omega | exact Nat.le_refl _⟩, ⟨by repeat (first | (with_reducible first | exact HI0.out | apply IsS90.alloc | apply IsS90.drewN | apply IsS90.drew | apply IsS90.set_1) | exact HI0.out)⟩, ⟨by repeat (first | (with_reducible first | exact HK.out | apply KeepBut.set_ | apply keep_drewN | apply keep_drew | apply keep_alloc) | exact HK.out)⟩, ⟨by repeat (first | (with_reducible first | exact HB.out | apply below_alloc | apply pw_below_drewN | apply below_drew1 | refine below_set ?_ (IsS90.ge HI0.out)) | exact HB.out)⟩⟩
 case rest =>
  clear HC3
  obtain ⟨kq, x24_2, rfl, HA, HJ2, HI0, HK, HB⟩ := hcut
  cases kq with
  | zero => exact absurd HA.out (by simp [spec_reader_pick.j0])
  | succ kj2 =>
   have H := HA.out
   clear HA
   simp only [spec_reader_pick.j0] at H
   by_cases c7 : x24_2 = true
   ·subst c7
    have H1 : (some (0, (wrap64 (s0_1 + 1)))) = some (r1, r2) := by rw [if_pos rfl] at H; exact H
    clear H
    have H := H1
    clear H1
    simp only [Option.some.injEq, Prod.mk.injEq] at H
    obtain ⟨rfl, rfl⟩ := H
    go_wp2
    repeat (go_quiet (fail); try go_wp2)
    go_ret
    exact ⟨by first | rfl | (simp [errW_none, errW_some] <;> rfl) | (simp [*, errW_none, errW_some] <;> rfl), by repeat (first | (with_reducible first | exact HI0.out | apply IsS90.alloc | apply IsS90.drewN | apply IsS90.drew | apply IsS90.set_1) | exact HI0.out), by repeat (first | (with_reducible first | exact HB.out | apply below_alloc | apply pw_below_drewN | apply below_drew1 | refine below_set ?_ (IsS90.ge HI0.out)) | exact HB.out), by repeat (first | (with_reducible first | exact HK.out | apply KeepBut.set_ | apply keep_drewN | apply keep_drew | apply keep_alloc) | exact HK.out)⟩
   replace c7 := Bool.eq_false_iff.mpr c7
   subst c7
   have H1 : (if (wrap64 ((wrap64 (s0_1 + 1)) - 1)) < (s0_0.length : Int) then (if 0 ≤ (wrap64 ((wrap64 (s0_1 + 1)) - 1)) then (if a1 = 0 then (none) else (some (Int.tmod (wrap64 (rd s0_0 (wrap64 ((wrap64 (s0_1 + 1)) - 1)))) a1, (wrap64 (s0_1 + 1))))) else (none)) else (if (s0_0.length : Int) = 0 then (none) else (if 0 ≤ (Int.tmod (wrap64 ((wrap64 (s0_1 + 1)) - 1)) (s0_0.length : Int)) then (if (Int.tmod (wrap64 ((wrap64 (s0_1 + 1)) - 1)) (s0_0.length : Int)) < (s0_0.length : Int) then (if 0 ≤ (Int.tmod (wrap64 ((wrap64 ((wrap64 ((wrap64 (s0_1 + 1)) - 1)) * 7)) + 3)) (s0_0.length : Int)) then (if (Int.tmod (wrap64 ((wrap64 ((wrap64 ((wrap64 (s0_1 + 1)) - 1)) * 7)) + 3)) (s0_0.length : Int)) < (s0_0.length : Int) then (if a1 = 0 then (none) else (some (Int.tmod (Go.bits .xor .i64 (wrap64 ((wrap64 ((wrap64 ((wrap64 ((wrap64 (rd s0_0 (Int.tmod (wrap64 ((wrap64 (s0_1 + 1)) - 1)) (s0_0.length : Int)))) * 131)) + (wrap64 ((wrap64 (rd s0_0 (Int.tmod (wrap64 ((wrap64 ((wrap64 ((wrap64 (s0_1 + 1)) - 1)) * 7)) + 3)) (s0_0.length : Int)))) * 1117)))) + (wrap64 ((wrap64 ((wrap64 (s0_1 + 1)) - 1)) * 29)))) + (wrap64 ((wrap64 (Int.tdiv (wrap64 ((wrap64 (s0_1 + 1)) - 1)) (s0_0.length : Int))) * 53)))) (wrap64 (Int.tdiv (wrap64 ((wrap64 ((wrap64 ((wrap64 ((wrap64 (rd s0_0 (Int.tmod (wrap64 ((wrap64 (s0_1 + 1)) - 1)) (s0_0.length : Int)))) * 131)) + (wrap64 ((wrap64 (rd s0_0 (Int.tmod (wrap64 ((wrap64 ((wrap64 ((wrap64 (s0_1 + 1)) - 1)) * 7)) + 3)) (s0_0.length : Int)))) * 1117)))) + (wrap64 ((wrap64 ((wrap64 (s0_1 + 1)) - 1)) * 29)))) + (wrap64 ((wrap64 (Int.tdiv (wrap64 ((wrap64 (s0_1 + 1)) - 1)) (s0_0.length : Int))) * 53)))) 64))) a1, (wrap64 (s0_1 + 1))))) else (none)) else (none)) else (none)) else (none)))) = some (r1, r2) := by rw [if_neg (show ¬ (false = true) by decide)] at H; exact H
   clear H
   have H := H1
   clear H1
   by_cases c8 : (wrap64 ((wrap64 (s0_1 + 1)) - 1)) < (s0_0.length : Int)
   ·rw [if_pos c8] at H
    have c8b0 : decide ((wrap64 ((wrap64 (s0_1 + 1)) - 1)) < (s0_0.length : Int)) = true := decide_eq_true c8
    clear c8
    obtain ⟨ji9, hji9⟩ : ∃ j_ : Int, (wrap64 ((wrap64 (s0_1 + 1)) - 1)) = j_ := ⟨_, rfl⟩
    replace H : (if 0 ≤ (ji9) then (if a1 = 0 then (none) else (some (Int.tmod (wrap64 (rd s0_0 (ji9))) a1, (wrap64 (s0_1 + 1))))) else (none)) = some (r1, r2) := by first | (rw [hji9] at H; exact H) | (simp only [hji9] at H ⊢; exact H)
    (try rw [hji9] at c8b0)
    have hji9w : (IntKind.i64.wrap ((wrap64 (s0_1 + 1)) - 1)) = ji9 := (i64_w _).trans hji9
    by_cases c10 : 0 ≤ (ji9)
    ·rw [if_pos c10] at H
     have c10b0 : decide (0 ≤ (ji9)) = true := decide_eq_true c10
     clear c10
     by_cases c11 : a1 = 0
     ·rw [if_pos c11] at H
      exact absurd H (by simp)
     rw [if_neg c11] at H
     simp only [Option.some.injEq, Prod.mk.injEq] at H
     obtain ⟨rfl, rfl⟩ := H
     obtain ⟨ASz12_0, cSz12_0, HGz12, hgz12, HSz12_0⟩ := HI0.out
     have hcz12_0 := cellS90_0 HGz12
     have hcz12_1 := cellS90_1 HGz12
     clear HGz12 hgz12
     have p91001 : 0 ≤ ((ji9) : Int) := of_decide_eq_true (by first | (with_reducible assumption) | assumption)
     have q91001 : (ji9) < (s0_0.length : Int) := of_decide_eq_true (by first | (with_reducible assumption) | assumption)
     obtain ⟨ad91001, e91001, hx91001_0⟩ := Kd.at_int HSz12_0 (ji9) p91001 q91001
     cases e91001
     replace hx91001_0 := pw_cell_below HB.out hx91001_0
     replace p91001 := eq_true p91001
     replace q91001 := eq_true q91001
     go_wp2
     repeat (go_quiet (fail); try go_wp2)
     go_ret
     exact ⟨by first | rfl | (simp [errW_none, errW_some] <;> rfl) | (simp only [← hji9]; first | rfl | (simp [errW_none, errW_some] <;> rfl)) | (simp [*, errW_none, errW_some] <;> rfl), by repeat (first | (with_reducible first | exact HI0.out | apply IsS90.alloc | apply IsS90.drewN | apply IsS90.drew | apply IsS90.set_1) | exact HI0.out), by repeat (first | (with_reducible first | exact HB.out | apply below_alloc | apply pw_below_drewN | apply below_drew1 | refine below_set ?_ (IsS90.ge HI0.out)) | exact HB.out), by repeat (first | (with_reducible first | exact HK.out | apply KeepBut.set_ | apply keep_drewN | apply keep_drew | apply keep_alloc) | exact HK.out)⟩
    rw [if_neg c10] at H
    exact absurd H (by simp)
   rw [if_neg c8] at H
   have c8b0 : decide ((wrap64 ((wrap64 (s0_1 + 1)) - 1)) < (s0_0.length : Int)) = false := decide_eq_false c8
   clear c8
   by_cases c13 : (s0_0.length : Int) = 0
   ·rw [if_pos c13] at H
    exact absurd H (by simp)
   rw [if_neg c13] at H
   have c13b2 : ¬ (s0_0 = []) := fun h_ => c13 (by rw [h_]; rfl)
   obtain ⟨ji14, hji14⟩ : ∃ j_ : Int, (Int.tmod (wrap64 ((wrap64 (s0_1 + 1)) - 1)) (s0_0.length : Int)) = j_ := ⟨_, rfl⟩
   replace H : (if 0 ≤ (ji14) then (if (ji14) < (s0_0.length : Int) then (if 0 ≤ (Int.tmod (wrap64 ((wrap64 ((wrap64 ((wrap64 (s0_1 + 1)) - 1)) * 7)) + 3)) (s0_0.length : Int)) then (if (Int.tmod (wrap64 ((wrap64 ((wrap64 ((wrap64 (s0_1 + 1)) - 1)) * 7)) + 3)) (s0_0.length : Int)) < (s0_0.length : Int) then (if a1 = 0 then (none) else (some (Int.tmod (Go.bits .xor .i64 (wrap64 ((wrap64 ((wrap64 ((wrap64 ((wrap64 (rd s0_0 (ji14))) * 131)) + (wrap64 ((wrap64 (rd s0_0 (Int.tmod (wrap64 ((wrap64 ((wrap64 ((wrap64 (s0_1 + 1)) - 1)) * 7)) + 3)) (s0_0.length : Int)))) * 1117)))) + (wrap64 ((wrap64 ((wrap64 (s0_1 + 1)) - 1)) * 29)))) + (wrap64 ((wrap64 (Int.tdiv (wrap64 ((wrap64 (s0_1 + 1)) - 1)) (s0_0.length : Int))) * 53)))) (wrap64 (Int.tdiv (wrap64 ((wrap64 ((wrap64 ((wrap64 ((wrap64 (rd s0_0 (ji14))) * 131)) + (wrap64 ((wrap64 (rd s0_0 (Int.tmod (wrap64 ((wrap64 ((wrap64 ((wrap64 (s0_1 + 1)) - 1)) * 7)) + 3)) (s0_0.length : Int)))) * 1117)))) + (wrap64 ((wrap64 ((wrap64 (s0_1 + 1)) - 1)) * 29)))) + (wrap64 ((wrap64 (Int.tdiv (wrap64 ((wrap64 (s0_1 + 1)) - 1)) (s0_0.length : Int))) * 53)))) 64))) a1, (wrap64 (s0_1 + 1))))) else (none)) else (none)) else (none)) else (none)) = some (r1, r2) := by first | (rw [hji14] at H; exact H) | (simp only [hji14] at H ⊢; exact H)
   by_cases c15 : 0 ≤ (ji14)
   ·rw [if_pos c15] at H
    have c15b0 : decide (0 ≤ (ji14)) = true := decide_eq_true c15
    clear c15
    by_cases c16 : (ji14) < (s0_0.length : Int)
    ·rw [if_pos c16] at H
     have c16b0 : decide ((ji14) < (s0_0.length : Int)) = true := decide_eq_true c16
     clear c16
     obtain ⟨ji17, hji17⟩ : ∃ j_ : Int, (Int.tmod (wrap64 ((wrap64 ((wrap64 ((wrap64 (s0_1 + 1)) - 1)) * 7)) + 3)) (s0_0.length : Int)) = j_ := ⟨_, rfl⟩
     replace H : (if 0 ≤ (ji17) then (if (ji17) < (s0_0.length : Int) then (if a1 = 0 then (none) else (some (Int.tmod (Go.bits .xor .i64 (wrap64 ((wrap64 ((wrap64 ((wrap64 ((wrap64 (rd s0_0 (ji14))) * 131)) + (wrap64 ((wrap64 (rd s0_0 (ji17))) * 1117)))) + (wrap64 ((wrap64 ((wrap64 (s0_1 + 1)) - 1)) * 29)))) + (wrap64 ((wrap64 (Int.tdiv (wrap64 ((wrap64 (s0_1 + 1)) - 1)) (s0_0.length : Int))) * 53)))) (wrap64 (Int.tdiv (wrap64 ((wrap64 ((wrap64 ((wrap64 ((wrap64 (rd s0_0 (ji14))) * 131)) + (wrap64 ((wrap64 (rd s0_0 (ji17))) * 1117)))) + (wrap64 ((wrap64 ((wrap64 (s0_1 + 1)) - 1)) * 29)))) + (wrap64 ((wrap64 (Int.tdiv (wrap64 ((wrap64 (s0_1 + 1)) - 1)) (s0_0.length : Int))) * 53)))) 64))) a1, (wrap64 (s0_1 + 1))))) else (none)) else (none)) = some (r1, r2) := by first | (rw [hji17] at H; exact H) | (simp only [hji17] at H ⊢; exact H)
     by_cases c18 : 0 ≤ (ji17)
     ·rw [if_pos c18] at H
      have c18b0 : decide (0 ≤ (ji17)) = true := decide_eq_true c18
      clear c18
      by_cases c19 : (ji17) < (s0_0.length : Int)
      ·rw [if_pos c19] at H
       have c19b0 : decide ((ji17) < (s0_0.length : Int)) = true := decide_eq_true c19
       clear c19
       by_cases c20 : a1 = 0
       ·rw [if_pos c20] at H
        exact absurd H (by simp)
       rw [if_neg c20] at H
       simp only [Option.some.injEq, Prod.mk.injEq] at H
       obtain ⟨rfl, rfl⟩ := H
       obtain ⟨ASz21_0, cSz21_0, HGz21, hgz21, HSz21_0⟩ := HI0.out
       have hcz21_0 := cellS90_0 HGz21
       have hcz21_1 := cellS90_1 HGz21
       clear HGz21 hgz21
       have p91002 : 0 ≤ ((ji14) : Int) := of_decide_eq_true (by first | (with_reducible assumption) | assumption)
       have q91002 : (ji14) < (s0_0.length : Int) := of_decide_eq_true (by first | (with_reducible assumption) | assumption)
       obtain ⟨ad91002, e91002, hx91002_0⟩ := Kd.at_int HSz21_0 (ji14) p91002 q91002
       cases e91002
       replace hx91002_0 := pw_cell_below HB.out hx91002_0
       replace p91002 := eq_true p91002
       replace q91002 := eq_true q91002
       have p91003 : 0 ≤ ((ji17) : Int) := of_decide_eq_true (by first | (with_reducible assumption) | assumption)
       have q91003 : (ji17) < (s0_0.length : Int) := of_decide_eq_true (by first | (with_reducible assumption) | assumption)
       obtain ⟨ad91003, e91003, hx91003_0⟩ := Kd.at_int HSz21_0 (ji17) p91003 q91003
       obtain rfl : ad91002 = ad91003 := (by injection e91003)
       replace hx91003_0 := pw_cell_below HB.out hx91003_0
       replace p91003 := eq_true p91003
       replace q91003 := eq_true q91003
       go_wp2
       repeat (go_quiet (fail); try go_wp2)
       go_ret
       exact ⟨by first | rfl | (simp [errW_none, errW_some] <;> rfl) | (simp only [← hji14, ← hji17]; first | rfl | (simp [errW_none, errW_some] <;> rfl)) | (simp [*, errW_none, errW_some] <;> rfl), by repeat (first | (with_reducible first | exact HI0.out | apply IsS90.alloc | apply IsS90.drewN | apply IsS90.drew | apply IsS90.set_1) | exact HI0.out), by repeat (first | (with_reducible first | exact HB.out | apply below_alloc | apply pw_below_drewN | apply below_drew1 | refine below_set ?_ (IsS90.ge HI0.out)) | exact HB.out), by repeat (first | (with_reducible first | exact HK.out | apply KeepBut.set_ | apply keep_drewN | apply keep_drew | apply keep_alloc) | exact HK.out)⟩
      rw [if_neg c19] at H
      exact absurd H (by simp)
     rw [if_neg c18] at H
     exact absurd H (by simp)
    rw [if_neg c16] at H
    exact absurd H (by simp)
   rw [if_neg c15] at H
   exact absurd H (by simp)


def spec_reader_one.f (k : Nat) (s0_0 : List Int) (s0_1 : Int) (l1 : List Int) : Option (Int × Int) := (spec_reader_pick.f k s0_0 s0_1 (l1.length : Int)).bind fun bt86001 => (if 0 ≤ bt86001.1 then (if bt86001.1 < (l1.length : Int) then (some (rd l1 bt86001.1, bt86001.2)) else (none)) else (none))
theorem spec_reader_one.mono : ∀ a0 a1 a2 k, LeO (spec_reader_one.f k a0 a1 a2) (spec_reader_one.f (k + 1) a0 a1 a2) := by
 intro a0 a1 a2 k
 unfold spec_reader_one.f
 repeat' first
   | (with_reducible exact spec_reader_pick.mono _ _ _ _)
   | (with_reducible exact LeO.refl _)
   | (with_reducible exact LeO.none _)
   | (with_reducible refine LeO.ite ?_ ?_)
   | (with_reducible refine LeO.bind ?_ (fun _ => ?_))
   | exact spec_reader_pick.mono _ _ _ _
   | exact LeO.none _
   | refine LeO.ite ?_ ?_
   | refine LeO.bind ?_ (fun _ => ?_)
set_option maxHeartbeats 8000000 in
set_option maxRecDepth 100000 in
theorem spec_reader_one.calls (k : Nat) (g : Nat) (s0_0 : List Int) (s0_1 : Int) (A1 : Option Addr) (c1 : Nat) (l1 : List Int) (r1 : Int) (r2 : Int) (w0 w : World) (hI : IsS90 w0 w g s0_0 s0_1) (hB : Below w0.heap.size w0 w) (hr1 : Kd.C (Kd.int .i64) w A1 l1.length l1) (hc1 : l1.length ≤ c1) (hf1 : ∀ ad, A1 = some ad → 0 < l1.length → ad.block ≠ g) (h : spec_reader_one.f k s0_0 s0_1 l1 = some (r1, r2)) :
  Calls Try.prog 85 #[.pointer (some ⟨g, 0, none⟩), .slice A1 l1.length c1] w fun e w' => e = .returned (.int .i64 r1) ∧ IsS90 w0 w' g s0_0 r2 ∧ Below w0.heap.size w0 w' ∧ KeepBut w w' g none := by
 have HR1 := Aside0.mk hr1
 have HC1 := Aside0.mk hc1
 clear hr1 hc1
 have HI0 := Aside0.mk hI
 have HK := Aside0.mk (KeepBut.refl w g none)
 have HL := Aside0.mk hB.size
 clear hI
 have HW0 := Aside0.mk hB.size
 have HB := Aside0.mk hB
 clear hB
 have H : ((spec_reader_pick.f k s0_0 s0_1 (l1.length : Int)).bind fun bt86001 => (if 0 ≤ bt86001.1 then (if bt86001.1 < (l1.length : Int) then (some (rd l1 bt86001.1, bt86001.2)) else (none)) else (none))) = some (r1, r2) := h
 clear h
 replace H := Option.bind_eq_some_iff.mp H
 obtain ⟨⟨t86001, t86002⟩, A30, H⟩ := H
 replace H : (if 0 ≤ t86001 then (if t86001 < (l1.length : Int) then (some (rd l1 t86001, t86002)) else (none)) else (none)) = some (r1, r2) := H
 have A3 := Aside0.mk A30
 clear A30
 by_cases c4 : 0 ≤ t86001
 ·rw [if_pos c4] at H
  have c4b0 : decide (0 ≤ t86001) = true := decide_eq_true c4
  clear c4
  by_cases c5 : t86001 < (l1.length : Int)
  ·rw [if_pos c5] at H
   have c5b0 : decide (t86001 < (l1.length : Int)) = true := decide_eq_true c5
   clear c5
   simp only [Option.some.injEq, Prod.mk.injEq] at H
   obtain ⟨rfl, rfl⟩ := H
   go_enter Try.func85, Try.ntmps85
   go_wp2_with (first | ((with_reducible refine gate_callee (f := 90) rfl ?_); refine goesL_ (some 9) rfl rfl Try.func90 (by kernel_rfl) rfl #[.pointer (some ⟨g, 0, none⟩), .int .i64 (l1.length : Int)] rfl (by (try simp only [List.map_toArray, List.map_cons, List.map_nil]); first | done | rfl | (simp only [List.length_drop, List.length_take]; rfl)) ?_; (with_reducible refine (spec_reader_pick.calls k g s0_0 s0_1 (l1.length : Int) t86001 t86002 w0 _ ?side1 ?side2 A3.out).mono ?_); (case side1 => repeat (first | (with_reducible first | exact HI0.out | apply IsS90.alloc | apply IsS90.drewN | apply IsS90.drew | apply IsS90.set_1) | exact HI0.out)); (case side2 => repeat (first | (with_reducible first | exact HB.out | apply below_alloc | apply pw_below_drewN | apply below_drew1 | refine below_set ?_ (IsS90.ge HI0.out)) | exact HB.out)); rintro e w6 ⟨rfl, hi, hb, hk⟩; refine ⟨_, rfl, ?_⟩; have n0_ := Aside0.mk (KeepBut.trans (by repeat (first | (with_reducible first | exact HK.out | apply KeepBut.set_ | apply keep_drewN | apply keep_drew | apply keep_alloc) | exact HK.out)) hk (.inl rfl)); have n1_ := Aside0.mk (hb); have n2_ := Aside0.mk (hi); clear HK; clear HB; clear HI0; have HK := n0_; have HB := n1_; have HI0 := n2_; clear n0_ n1_ n2_; (try clear hb); (try clear hb2); (try clear hk); (try clear hi); have p86003 : 0 ≤ (t86001 : Int) := of_decide_eq_true (by first | (with_reducible assumption) | assumption); have q86003 : t86001 < (l1.length : Int) := of_decide_eq_true (by first | (with_reducible assumption) | assumption); obtain ⟨ad86003, e86003, hx86003_0⟩ := Kd.at_int HR1.out t86001 p86003 q86003; cases e86003; replace hx86003_0 := keep_cell HK.out hx86003_0 (by first | (rw [add_block]; exact hf1 _ rfl (by omega)) | exact hf1 _ rfl (by omega) | exact hf1 ad86003 rfl (by omega)); replace p86003 := eq_true p86003; replace q86003 := eq_true q86003))
   go_ret
   exact ⟨by first | rfl | (simp [errW_none, errW_some] <;> rfl) | (simp [*, errW_none, errW_some] <;> rfl), by repeat (first | (with_reducible first | exact HI0.out | apply IsS90.alloc | apply IsS90.drewN | apply IsS90.drew | apply IsS90.set_1) | exact HI0.out), by repeat (first | (with_reducible first | exact HB.out | apply below_alloc | apply pw_below_drewN | apply below_drew1 | refine below_set ?_ (IsS90.ge HI0.out)) | exact HB.out), by repeat (first | (with_reducible first | exact HK.out | apply KeepBut.set_ | apply keep_drewN | apply keep_drew | apply keep_alloc) | exact HK.out)⟩
  ·rw [if_neg c5] at H
   exact absurd H (by simp)
 ·rw [if_neg c4] at H
  exact absurd H (by simp)

end Go.Proofs.Ytgccpcnakkioiaa.Q
