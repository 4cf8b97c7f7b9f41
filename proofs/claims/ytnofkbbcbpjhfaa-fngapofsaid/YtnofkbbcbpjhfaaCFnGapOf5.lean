/- A part of the proof that the statement FnGapOfSaid holds, under no condition of its own: Equal images have no gap: the law FnGapOf over lists of numbers alone. -/
import Derived.Test.YtnofkbbcbpjhfaaCFnGapOf4
import Derived.OrdersHeld
import Derived.Deep.RegionHeld
import Derived.RegionTactic
import Derived.Test.YtnofkbbcbpjhfaaCFnGapOf1
import Derived.Test.YtnofkbbcbpjhfaaCFnGapOf2
import Derived.Test.YtnofkbbcbpjhfaaCFnGapOf3
import Derived.Test.YtnofkbbcbpjhfaaRows
import Derived.JoinedOf
import Derived.KernelRfl
import Derived.WalkKit
import Derived.ProofKit
import Derived.OpenShut
import Derived.ShutString
import Derived.ChangeOld
import Derived.Below
import Derived.SizedLaws
import Derived.Test.YtnofkbbcbpjhfaaCFnGapOfW1
/- impl.mapImage: a copy of an image with each number replaced. -/
namespace Go.Proofs.Ytnofkbbcbpjhfaa.Q
open Go.RowKit Go.Proofs.YtnofkbbcbpjhfaaW.PrintWords Go.Proofs.YtnofkbbcbpjhfaaW.PrintLast Go.Proofs.YtnofkbbcbpjhfaaW.PrintMore
attribute [local go_sem] max2_int min2_int max_two min_two max_three min_three max_four min_four
set_option linter.unusedVariables false
set_option linter.unusedSimpArgs false
open Go.Proofs.Ytnofkbbcbpjhfaa.Pure

/-- what the row holds after i numbers -/
def mapped (f : Int → Int) (d : List Int) (i : Nat) : List Int := (d.take i).map f ++ d.drop i
theorem mapped_length (f : Int → Int) (d : List Int) (i : Nat) : (mapped f d i).length = d.length := by simp only [mapped, List.length_append, List.length_map, List.length_take, List.length_drop]; omega
theorem mapped_get (f : Int → Int) (d : List Int) (i : Nat) (h : i < d.length) : (mapped f d i).getD i 0 = d[i] := by
  unfold mapped
  rw [List.getD_eq_getElem?_getD, List.getElem?_append_right (by simp; omega)]
  simp [Nat.min_eq_left (Nat.le_of_lt h), List.getElem?_eq_getElem h]
theorem mapped_set (f : Int → Int) (d : List Int) (i : Nat) (h : i < d.length) : (mapped f d i).set i (f d[i]) = mapped f d (i + 1) := by
  unfold mapped
  rw [List.set_append_right _ _ (by simp; omega), List.take_succ_eq_append_getElem h, List.map_append, List.append_assoc]
  congr 1
  rw [List.length_map, List.length_take, Nat.min_eq_left (Nat.le_of_lt h), Nat.sub_self, List.drop_eq_getElem_cons h]
  rfl
theorem mapped_zero (f : Int → Int) (d : List Int) : mapped f d 0 = d := by simp [mapped]
theorem mapped_all (f : Int → Int) (d : List Int) : mapped f d d.length = d.map f := by simp [mapped]
theorem mapped_cell {W : World} {base gr cr : Nat} {ok : Nat → Prop} {f : Int → Int} {d : List Int} {i : Nat} (h : Kd.R (Kd.int .i64) 3 W base ok (.slice (some ⟨gr, 0, none⟩) d.length cr) (mapped f d i)) (hi : i < d.length) : W.cell? ⟨gr, i, none⟩ = some (.int .i64 (d[i]'hi)) ∧ W.frozen? ⟨gr, i, none⟩ = false := by
  have := Kd.R_celln 0 h (i : Int) (by omega) (by omega)
  unfold rdOf at this
  rw [Int.toNat_natCast, mapped_get f d i hi] at this
  exact this
theorem mapped_put {W : World} {base gr cr : Nat} {ok : Nat → Prop} {f : Int → Int} {d : List Int} {i : Nat} (h : Kd.R (Kd.int .i64) 3 W base ok (.slice (some ⟨gr, 0, none⟩) d.length cr) (mapped f d i)) (hi : i < d.length) : Kd.R (Kd.int .i64) 3 (W.setCell ⟨gr, i, none⟩ (.int .i64 (f (d[i]'hi)))) base ok (.slice (some ⟨gr, 0, none⟩) d.length cr) (mapped f d (i + 1)) := by
  have := Kd.R_putn h (i : Int) (f (d[i]'hi))
  rw [Int.toNat_natCast, mapped_set f d i hi] at this
  exact this
theorem mapped_below {W W' : World} {base gr cr : Nat} {ok : Nat → Prop} {f : Int → Int} {d : List Int} {i : Nat} (h : Kd.R (Kd.int .i64) 3 W base ok (.slice (some ⟨gr, 0, none⟩) d.length cr) (mapped f d i)) (hb : Below W.heap.size W W') : Kd.R (Kd.int .i64) 3 W' base ok (.slice (some ⟨gr, 0, none⟩) d.length cr) (mapped f d i) := Kd.R_below h hb

set_option maxHeartbeats 4000000 in
set_option maxRecDepth 100000 in
theorem map_calls (q : Nat) (f : Int → Int) (a b p : Int) (A : Option Addr) (c : Nat) (d : List Int) (hc : d.length ≤ c) (hl : d.length ≤ 1024) (hne : 0 < d.length) (w : World) (hr : Kd.C (Kd.int .i64) w A d.length d)
    (eg : ∀ args W, (callFunc q args).run Try.prog W = .ok (.enter q args) W)
    (hp : ∀ (W : World) (n : Int), n ∈ d → Calls Try.prog q #[.int .i64 n] W fun e W' => e = .returned (.int .i64 (f n)) ∧ Below W.heap.size W W') :
    Calls Try.prog 87 #[.agg #[.int .i64 a, .int .i64 b, .int .i64 p, .slice A d.length c], .func (.func q) #[] #[]] w fun e w' => ∃ v3_ : Value, e = .returned (.agg #[.int .i64 a, .int .i64 b, .int .i64 p, v3_]) ∧ Kd.R (Kd.int .i64) 3 w' w.heap.size (fun _ => True) v3_ (d.map f) ∧ Below w.heap.size w w' := by
  have HC := Aside0.mk hc
  have HR := Aside0.mk hr
  have HP := Aside0.mk hp
  have HNE := Aside0.mk hne
  have HB0 := Aside0.mk (Below.refl w.heap.size w)
  have HCP := Aside0.mk (show impl_copyImage.f a b p d = some (a, b, p, d) from by
    unfold impl_copyImage.f
    simp only [Option.bind_some]
    rw [if_pos (by simp; omega)]
    simp)
  have hu := Try.underlying27
  have hui := Try.underlying22
  clear hc hr hp hne
  go_enter Try.func87, Try.ntmps87
  go_wp2_with (first
    | ((with_reducible refine gate_dst (N := 2) rfl ?_); refine box_event ?hg (N := 2) ?hd (cs := #[.int .i64 a, .int .i64 b, .int .i64 p, .slice A d.length c]) (t := 27) ?hr ?_; (case hd => rfl); (case hg => rfl); (case hr => first | (go_simp; done) | (go_simp; rfl)); intro g1 hg_ w1 hbox hb; have HB1 := Aside0.mk (below_then HB0.out HB0.out.size hb); have K1 := Aside0.mk hbox; have Gg1 := Aside0.mk (show w.heap.size ≤ g1 from by rw [hg_]; exact HB0.out.size); clear hbox hb hg_)
    | ((with_reducible refine gate_dst (N := 4) rfl ?_); refine box_event ?hg (N := 4) ?hd (cs := #[.int .i64 0, .int .i64 0, .int .i64 0, .slice none 0 0]) (t := 27) ?hr ?_; (case hd => rfl); (case hg => rfl); (case hr => first | (go_simp; done) | (go_simp; rfl)); intro g2 hg_ w2 hbox hb; have HB2 := Aside0.mk (below_then HB1.out HB1.out.size hb); have K2 := Aside0.mk hbox; have Gg2 := Aside0.mk (show w.heap.size ≤ g2 from by rw [hg_]; exact HB1.out.size); have K1b := Aside0.mk (blk_below K1.out hb); have f0 : w2.cell? ⟨g1, 0, none⟩ = some (.int .i64 a) := (blk_cell K1b.out 0).trans rfl; have f1 : w2.cell? ⟨g1, 1, none⟩ = some (.int .i64 b) := (blk_cell K1b.out 1).trans rfl; have f2 : w2.cell? ⟨g1, 2, none⟩ = some (.int .i64 p) := (blk_cell K1b.out 2).trans rfl; have f3 : w2.cell? ⟨g1, 3, none⟩ = some (.slice A d.length c) := (blk_cell K1b.out 3).trans rfl; clear hbox hb hg_)
    | (go_at_call 133; (with_reducible refine (impl_copyImage.calls a b p A c d a b p d w2 (Kd.C_below HR.out HB2.out) HC.out HCP.out).mono ?_); rintro e w3 ⟨v3, rfl, hr3, hb3⟩; have HB3 := Aside0.mk (below_then HB2.out HB2.out.size hb3); have HR3 := Aside0.mk (Kd.R_lower hr3 HB2.out.size); have K2c := Aside0.mk (blk_below K2.out hb3); obtain ⟨gr, cr, e3, hgr, hgl, _⟩ := Kd.R_form hr3 HNE.out; subst e3; have GR := Aside0.mk hgr; have GL := Aside0.mk hgl; clear hr3 hb3 hgr hgl))
  have K2c := K2c.out
  have HB3 := HB3.out
  have HR3 := HR3.out
  have GR := GR.out
  have GL := GL.out
  have HNE := HNE.out
  have HP := HP.out
  have HGM := blk_new w3 (.cells #[.int .i64 a, .int .i64 b, .int .i64 p, .slice (some ⟨gr, 0, none⟩) d.length cr] 27 (0, 0))
  have SZ := blk_lt K2.out
  have GG2 := Gg2.out
  have SB1 := HB1.out.size
  go_loopw [13] (fun v13 W => ∃ i : Nat, v13 = .int .i64 i ∧ i ≤ d.length ∧ Kd.R (Kd.int .i64) 3 W w.heap.size (fun k => k = gr) (.slice (some ⟨gr, 0, none⟩) d.length cr) (mapped f d i) ∧ W.heap[w3.heap.size]? = some (.cells #[.int .i64 a, .int .i64 b, .int .i64 p, .slice (some ⟨gr, 0, none⟩) d.length cr] 27 (0, 0)) ∧ W.heap[g2]? = some (.cells #[.int .i64 0, .int .i64 0, .int .i64 0, .slice none 0 0] 27 (0, 0)) ∧ Aside0 (Below w.heap.size w W)) (fun v13 _ => d.length - (intOf v13).toNat)
  case atStart => exact ⟨0, rfl, by omega, by rw [mapped_zero]; exact Kd.R_alloc (Kd.R_mono (Kd.R_tight rfl HR3) (fun k hk => by simpa [Value.ownBlock] using hk)) _, HGM, blk_alloc K2c _, ⟨below_alloc HB3 _⟩⟩
  case round =>
    obtain ⟨i, rfl, hi, hr, hm, h2, hb⟩ := hrel
    by_cases hlt : i < d.length
    · have hdi : decide ((i : Int) < (d.length : Int)) = true := by simp; omega
      obtain ⟨hce, hcf⟩ := mapped_cell hr hlt
      have m0 := blk_cell hm 0; have m1 := blk_cell hm 1; have m2 := blk_cell hm 2; have m3 := blk_cell hm 3
      go_wp2
      go_region_with (first | (go_at_fn q; refine (HP _ (d[i]'hlt) (List.getElem_mem hlt)).mono ?_; rintro e w' ⟨rfl, hb2⟩; have HRn := Aside0.mk (mapped_below (W := wr.drew) (Kd.R_drew hr) hb2); have HMn := Aside0.mk (blk_below (w := wr.drew) hm hb2); have H2n := Aside0.mk (blk_below (w := wr.drew) h2 hb2); have HBn := Aside0.mk (below_then (below_drew hb.out) (below_drew hb.out).size hb2); have m3n := blk_cell HMn.out 3; obtain ⟨hcen, hcfn⟩ := mapped_cell HRn.out hlt; clear hb2))
      all_goals
        go_wp2
        go_roundw
        case rel => exact ⟨i + 1, by go_num, by omega, mapped_put HRn.out hlt, blk_far HMn.out (by simp; omega) _, blk_far H2n.out (by simp; omega) _, ⟨below_set HBn.out (by have := HB2.out.size; omega)⟩⟩
        case measure => simp [intOf]; omega
    · have hdi : decide ((i : Int) < (d.length : Int)) = false := by simp; omega
      have hil : i = d.length := by omega
      subst hil
      rw [mapped_all] at hr
      have m0 := blk_cell hm 0; have m1 := blk_cell hm 1; have m2 := blk_cell hm 2; have m3 := blk_cell hm 3
      have z0 := blk_cell h2 0; have z1 := blk_cell h2 1; have z2 := blk_cell h2 2; have z3 := blk_cell h2 3
      have y0 := blk_frozen h2 0; have y1 := blk_frozen h2 1; have y2 := blk_frozen h2 2; have y3 := blk_frozen h2 3
      go_wp2
      refine bodyPost_ret (results_cell_row rfl _ _ g2 27 #[.int .i64 a, .int .i64 b, .int .i64 p, .slice (some ⟨gr, 0, none⟩) d.length cr] (0, 0) _ rfl (by
        refine blk_put (cs := #[.int .i64 a, .int .i64 b, .int .i64 p, .slice none 0 0]) ?_ 3 _ rfl
        refine blk_put (cs := #[.int .i64 a, .int .i64 b, .int .i64 0, .slice none 0 0]) ?_ 2 _ rfl
        refine blk_put (cs := #[.int .i64 a, .int .i64 0, .int .i64 0, .slice none 0 0]) ?_ 1 _ rfl
        refine blk_put (cs := #[.int .i64 0, .int .i64 0, .int .i64 0, .slice none 0 0]) ?_ 0 _ rfl
        exact h2) hu rfl (by kernel_rfl)) rfl ?_
      exact ⟨_, rfl, Kd.R_mono (Kd.R_far (Kd.R_far (Kd.R_far (Kd.R_far hr (fun k hk => by subst hk; simp; omega) _) (fun k hk => by subst hk; simp; omega) _) (fun k hk => by subst hk; simp; omega) _) (fun k hk => by subst hk; simp; omega) _) (fun _ _ => trivial), below_set (below_set (below_set (below_set hb.out (by omega)) (by omega)) (by omega)) (by omega)⟩
end Go.Proofs.Ytnofkbbcbpjhfaa.Q

namespace Go.Proofs.Ytnofkbbcbpjhfaa.Q
open Go.RowKit Go.Proofs.YtnofkbbcbpjhfaaW.PrintWords Go.Proofs.YtnofkbbcbpjhfaaW.PrintLast Go.Proofs.YtnofkbbcbpjhfaaW.PrintMore
attribute [local go_sem] max2_int min2_int max_two min_two max_three min_three max_four min_four
set_option linter.unusedVariables false
set_option linter.unusedSimpArgs false
def impl_InvertImage_1.f (a0 : Int) : Option (Int) := some (wrap64 (255 - a0))
set_option maxHeartbeats 8000000 in
set_option maxRecDepth 100000 in
theorem impl_InvertImage_1.calls (a0 : Int) (r : Int) (w : World) (h : impl_InvertImage_1.f a0 = some r) :
    Calls Try.prog 88 #[.int .i64 a0] w fun e w' => e = .returned (.int .i64 r) ∧ Drawn0 w w' := by
  have H : (some (wrap64 (255 - a0))) = some r := h
  clear h
  obtain rfl := Option.some.inj H
  go_enter Try.func88, Try.ntmps88
  go_wp2
  go_ret
  exact ⟨by first | rfl | (simp; done) | (simp [*]; done), by repeat (first | exact Drawn0.refl _ | apply Drawn0.step)⟩

end Go.Proofs.Ytnofkbbcbpjhfaa.Q

/- impl.InvertImage: each number subtracted from 255. -/
namespace Go.Proofs.Ytnofkbbcbpjhfaa.Q
open Go.RowKit Go.Proofs.YtnofkbbcbpjhfaaW.PrintWords Go.Proofs.YtnofkbbcbpjhfaaW.PrintLast Go.Proofs.YtnofkbbcbpjhfaaW.PrintMore
attribute [local go_sem] max2_int min2_int max_two min_two max_three min_three max_four min_four
set_option linter.unusedVariables false
set_option linter.unusedSimpArgs false
open Go.Proofs.Ytnofkbbcbpjhfaa.Pure

def invD (d : List Int) : List Int := d.map (fun n => wrap64 (255 - n))
def impl_InvertImage.f (a b p : Int) (d : List Int) : Option (Int × Int × Int × List Int) := some (if validI a b p d = true then (a, b, p, invD d) else (0, 0, 0, []))

set_option maxHeartbeats 4000000 in
set_option maxRecDepth 100000 in
theorem impl_InvertImage.calls (a b p : Int) (A : Option Addr) (c : Nat) (d : List Int) (r1 r2 r3 : Int) (r4 : List Int) (w : World) (hr0_3 : Kd.C (Kd.int .i64) w A d.length d) (hc0_3 : d.length ≤ c) (h : impl_InvertImage.f a b p d = some (r1, r2, r3, r4)) :
    Calls Try.prog 27 #[.agg #[.int .i64 a, .int .i64 b, .int .i64 p, .slice A d.length c]] w fun e w' => ∃ v3_ : Value, e = .returned (.agg #[.int .i64 r1, .int .i64 r2, .int .i64 r3, v3_]) ∧ Kd.R (Kd.int .i64) 3 w' w.heap.size (fun _ => True) v3_ r4 ∧ Below w.heap.size w w' := by
  have hv := Option.some.inj h
  clear h
  have HC := Aside0.mk hc0_3
  have HR := Aside0.mk hr0_3
  have HB0 := Aside0.mk (Below.refl w.heap.size w)
  have E1 := Aside0.mk (impl_isImage_eq a b p d)
  have hu := Try.underlying27
  clear hr0_3 hc0_3
  cases hv1 : validI a b p d with
  | false =>
    rw [hv1, if_neg (by simp)] at hv
    obtain ⟨rfl, rfl, rfl, rfl⟩ : 0 = r1 ∧ 0 = r2 ∧ 0 = r3 ∧ [] = r4 := by simpa using hv
    rw [hv1] at E1
    clear hv1 hv
    go_enter Try.func27, Try.ntmps27
    go_wp2_with (first
      | ((with_reducible refine gate_dst (N := 1) rfl ?_); refine box_event ?hg (N := 1) ?hd (cs := #[.int .i64 a, .int .i64 b, .int .i64 p, .slice A d.length c]) (t := 27) ?hr ?_; (case hd => rfl); (case hg => rfl); (case hr => first | (go_simp; done) | (go_simp; rfl)); intro g1 hg_ w1 hbox hb; have HB1 := Aside0.mk (below_then HB0.out HB0.out.size hb); have K1 := Aside0.mk hbox; have Gg1 := Aside0.mk (show w.heap.size ≤ g1 from by rw [hg_]; exact HB0.out.size); have f0 : w1.cell? ⟨g1, 0, none⟩ = some (.int .i64 a) := (blk_cell K1.out 0).trans rfl; have f1 : w1.cell? ⟨g1, 1, none⟩ = some (.int .i64 b) := (blk_cell K1.out 1).trans rfl; have f2 : w1.cell? ⟨g1, 2, none⟩ = some (.int .i64 p) := (blk_cell K1.out 2).trans rfl; have f3 : w1.cell? ⟨g1, 3, none⟩ = some (.slice A d.length c) := (blk_cell K1.out 3).trans rfl; clear hbox hb hg_)
      | ((with_reducible refine gate_dst (N := 2) rfl ?_); refine box_event ?hg (N := 2) ?hd (cs := #[.int .i64 0, .int .i64 0, .int .i64 0, .slice none 0 0]) (t := 27) ?hr ?_; (case hd => rfl); (case hg => rfl); (case hr => first | (go_simp; done) | (go_simp; rfl)); intro g2 hg_ w2 hbox hb; have HB2 := Aside0.mk (below_then HB1.out HB1.out.size hb); have K2 := Aside0.mk hbox; have Gg2 := Aside0.mk (show w.heap.size ≤ g2 from by rw [hg_]; exact HB1.out.size); have K1b := Aside0.mk (blk_below K1.out hb); have f0 : w2.cell? ⟨g1, 0, none⟩ = some (.int .i64 a) := (blk_cell K1b.out 0).trans rfl; have f1 : w2.cell? ⟨g1, 1, none⟩ = some (.int .i64 b) := (blk_cell K1b.out 1).trans rfl; have f2 : w2.cell? ⟨g1, 2, none⟩ = some (.int .i64 p) := (blk_cell K1b.out 2).trans rfl; have f3 : w2.cell? ⟨g1, 3, none⟩ = some (.slice A d.length c) := (blk_cell K1b.out 3).trans rfl; clear hbox hb hg_)
      | (go_at_call 83; (with_reducible refine (impl_isImage.calls a b p A c d _ w2 (Kd.C_below HR.out HB2.out) HC.out E1.out).mono ?_); rintro e w3 ⟨rfl, hb3⟩; have HB3 := Aside0.mk (below_then HB2.out HB2.out.size hb3); have K1c := Aside0.mk (blk_below K1b.out hb3); have K2c := Aside0.mk (blk_below K2.out hb3); have e0 : w3.cell? ⟨g1, 0, none⟩ = some (.int .i64 a) := (blk_cell K1c.out 0).trans rfl; have e1 : w3.cell? ⟨g1, 1, none⟩ = some (.int .i64 b) := (blk_cell K1c.out 1).trans rfl; have e2 : w3.cell? ⟨g1, 2, none⟩ = some (.int .i64 p) := (blk_cell K1c.out 2).trans rfl; have e3 : w3.cell? ⟨g1, 3, none⟩ = some (.slice A d.length c) := (blk_cell K1c.out 3).trans rfl; have z0 := blk_cell K2c.out 0; have z1 := blk_cell K2c.out 1; have z2 := blk_cell K2c.out 2; have z3 := blk_cell K2c.out 3; have y0 := blk_frozen K2c.out 0; have y1 := blk_frozen K2c.out 1; have y2 := blk_frozen K2c.out 2; have y3 := blk_frozen K2c.out 3; clear hb3))
    refine bodyPost_ret (results_cell_row rfl _ _ g2 27 #[.int .i64 0, .int .i64 0, .int .i64 0, .slice none 0 0] (0, 0) _ rfl (by
      refine blk_put (cs := #[.int .i64 0, .int .i64 0, .int .i64 0, .slice none 0 0]) ?_ 3 _ rfl
      refine blk_put (cs := #[.int .i64 0, .int .i64 0, .int .i64 0, .slice none 0 0]) ?_ 2 _ rfl
      refine blk_put (cs := #[.int .i64 0, .int .i64 0, .int .i64 0, .slice none 0 0]) ?_ 1 _ rfl
      refine blk_put (cs := #[.int .i64 0, .int .i64 0, .int .i64 0, .slice none 0 0]) ?_ 0 _ rfl
      exact K2c.out) hu rfl (by kernel_rfl)) rfl ?_
    have G2 := Gg2.out
    exact ⟨_, rfl, Kd.R_nil _ _ _ _ _, below_set (below_set (below_set (below_set HB3.out (by omega)) (by omega)) (by omega)) (by omega)⟩
  | true =>
    obtain ⟨⟨hs, hl, _⟩⟩ : Nonempty ((1 ≤ a ∧ a ≤ 16 ∧ 1 ≤ b ∧ b ≤ 16 ∧ 1 ≤ p ∧ p ≤ 4) ∧ (d.length : Int) = a * b * p ∧ True) := ⟨((validI_iff a b p d).1 hv1).1, ((validI_iff a b p d).1 hv1).2.1, trivial⟩
    have hsp := shape_prod hs
    have hpos : 0 < a * b * p := Int.mul_pos (Int.mul_pos (by omega) (by omega)) (by omega)
    have HL := Aside0.mk (show d.length ≤ 1024 by omega)
    have HN := Aside0.mk (show 0 < d.length by omega)
    have EG := Aside0.mk (show ∀ args W, (callFunc 88 args).run Try.prog W = .ok (.enter 88 args) W from enters_of Try.func88 (by kernel_rfl) rfl)
    have EP := Aside0.mk (show ∀ (W : World) (n : Int), n ∈ d → Calls Try.prog 88 #[.int .i64 n] W fun e W' => e = .returned (.int .i64 (wrap64 (255 - n))) ∧ Below W.heap.size W W' from fun W n _ => (impl_InvertImage_1.calls n _ W rfl).mono (fun e W' h => ⟨h.1, h.2.below⟩))
    clear hl hsp hpos hs
    rw [hv1, if_pos rfl] at hv
    obtain ⟨rfl, rfl, rfl, rfl⟩ : a = r1 ∧ b = r2 ∧ p = r3 ∧ invD d = r4 := by simpa using hv
    rw [hv1] at E1
    clear hv1 hv
    go_enter Try.func27, Try.ntmps27
    go_wp2_with (first
      | ((with_reducible refine gate_dst (N := 1) rfl ?_); refine box_event ?hg (N := 1) ?hd (cs := #[.int .i64 a, .int .i64 b, .int .i64 p, .slice A d.length c]) (t := 27) ?hr ?_; (case hd => rfl); (case hg => rfl); (case hr => first | (go_simp; done) | (go_simp; rfl)); intro g1 hg_ w1 hbox hb; have HB1 := Aside0.mk (below_then HB0.out HB0.out.size hb); have K1 := Aside0.mk hbox; have Gg1 := Aside0.mk (show w.heap.size ≤ g1 from by rw [hg_]; exact HB0.out.size); have f0 : w1.cell? ⟨g1, 0, none⟩ = some (.int .i64 a) := (blk_cell K1.out 0).trans rfl; have f1 : w1.cell? ⟨g1, 1, none⟩ = some (.int .i64 b) := (blk_cell K1.out 1).trans rfl; have f2 : w1.cell? ⟨g1, 2, none⟩ = some (.int .i64 p) := (blk_cell K1.out 2).trans rfl; have f3 : w1.cell? ⟨g1, 3, none⟩ = some (.slice A d.length c) := (blk_cell K1.out 3).trans rfl; clear hbox hb hg_)
      | ((with_reducible refine gate_dst (N := 2) rfl ?_); refine box_event ?hg (N := 2) ?hd (cs := #[.int .i64 0, .int .i64 0, .int .i64 0, .slice none 0 0]) (t := 27) ?hr ?_; (case hd => rfl); (case hg => rfl); (case hr => first | (go_simp; done) | (go_simp; rfl)); intro g2 hg_ w2 hbox hb; have HB2 := Aside0.mk (below_then HB1.out HB1.out.size hb); have K2 := Aside0.mk hbox; have Gg2 := Aside0.mk (show w.heap.size ≤ g2 from by rw [hg_]; exact HB1.out.size); have K1b := Aside0.mk (blk_below K1.out hb); have f0 : w2.cell? ⟨g1, 0, none⟩ = some (.int .i64 a) := (blk_cell K1b.out 0).trans rfl; have f1 : w2.cell? ⟨g1, 1, none⟩ = some (.int .i64 b) := (blk_cell K1b.out 1).trans rfl; have f2 : w2.cell? ⟨g1, 2, none⟩ = some (.int .i64 p) := (blk_cell K1b.out 2).trans rfl; have f3 : w2.cell? ⟨g1, 3, none⟩ = some (.slice A d.length c) := (blk_cell K1b.out 3).trans rfl; clear hbox hb hg_)
      | (go_at_call 83; (with_reducible refine (impl_isImage.calls a b p A c d _ w2 (Kd.C_below HR.out HB2.out) HC.out E1.out).mono ?_); rintro e w3 ⟨rfl, hb3⟩; have HB3 := Aside0.mk (below_then HB2.out HB2.out.size hb3); have K1c := Aside0.mk (blk_below K1b.out hb3); have K2c := Aside0.mk (blk_below K2.out hb3); have e0 : w3.cell? ⟨g1, 0, none⟩ = some (.int .i64 a) := (blk_cell K1c.out 0).trans rfl; have e1 : w3.cell? ⟨g1, 1, none⟩ = some (.int .i64 b) := (blk_cell K1c.out 1).trans rfl; have e2 : w3.cell? ⟨g1, 2, none⟩ = some (.int .i64 p) := (blk_cell K1c.out 2).trans rfl; have e3 : w3.cell? ⟨g1, 3, none⟩ = some (.slice A d.length c) := (blk_cell K1c.out 3).trans rfl; have z0 := blk_cell K2c.out 0; have z1 := blk_cell K2c.out 1; have z2 := blk_cell K2c.out 2; have z3 := blk_cell K2c.out 3; have y0 := blk_frozen K2c.out 0; have y1 := blk_frozen K2c.out 1; have y2 := blk_frozen K2c.out 2; have y3 := blk_frozen K2c.out 3; clear hb3)
      | (go_at_call 87; (with_reducible refine (map_calls 88 (fun n => wrap64 (255 - n)) a b p A c d HC.out HL.out HN.out w3 (Kd.C_below HR.out HB3.out) EG.out EP.out).mono ?_); rintro e w4 ⟨v4, rfl, hr4, hb4⟩; have HB4 := Aside0.mk (below_then HB3.out HB3.out.size hb4); obtain ⟨gr, cr, e4, _, _, _⟩ := Kd.R_form hr4 (by rw [List.length_map]; exact HN.out); subst e4; simp only [List.length_map] at hr4; have HR4 := Aside0.mk (Kd.R_lower hr4 HB3.out.size); have K2d := Aside0.mk (blk_below K2c.out hb4); have x0 := blk_cell K2d.out 0; have x1 := blk_cell K2d.out 1; have x2 := blk_cell K2d.out 2; have x3 := blk_cell K2d.out 3; have u0 := blk_frozen K2d.out 0; have u1 := blk_frozen K2d.out 1; have u2 := blk_frozen K2d.out 2; have u3 := blk_frozen K2d.out 3; clear hr4 hb4))
    have G2 := Gg2.out
    have RR := Kd.R_types HR4.out K2d.out (by decide)
    refine bodyPost_ret (results_cell_row rfl _ _ g2 27 #[.int .i64 a, .int .i64 b, .int .i64 p, .slice (some ⟨gr, 0, none⟩) d.length cr] (0, 0) _ rfl (by
      refine blk_put (cs := #[.int .i64 a, .int .i64 b, .int .i64 p, .slice none 0 0]) ?_ 3 _ rfl
      refine blk_put (cs := #[.int .i64 a, .int .i64 b, .int .i64 0, .slice none 0 0]) ?_ 2 _ rfl
      refine blk_put (cs := #[.int .i64 a, .int .i64 0, .int .i64 0, .slice none 0 0]) ?_ 1 _ rfl
      refine blk_put (cs := #[.int .i64 0, .int .i64 0, .int .i64 0, .slice none 0 0]) ?_ 0 _ rfl
      exact K2d.out) hu rfl (by kernel_rfl)) rfl ?_
    exact ⟨_, rfl, Kd.R_mono (Kd.R_far (Kd.R_far (Kd.R_far (Kd.R_far RR (fun k hk => hk.2) _) (fun k hk => hk.2) _) (fun k hk => hk.2) _) (fun k hk => hk.2) _) (fun _ _ => trivial), below_set (below_set (below_set (below_set HB4.out (by omega)) (by omega)) (by omega)) (by omega)⟩
end Go.Proofs.Ytnofkbbcbpjhfaa.Q

namespace Go.Proofs.Ytnofkbbcbpjhfaa.Q
open Go.RowKit Go.Proofs.YtnofkbbcbpjhfaaW.PrintWords Go.Proofs.YtnofkbbcbpjhfaaW.PrintLast Go.Proofs.YtnofkbbcbpjhfaaW.PrintMore
attribute [local go_sem] max2_int min2_int max_two min_two max_three min_three max_four min_four
set_option linter.unusedVariables false
set_option linter.unusedSimpArgs false
def laws_FnGapOf.j0 : Nat → Int → Bool → Int → Int → Int → List Int → Int → Int → Int → List Int → Option (Bool)
  | 0, _, _, _, _, _, _, _, _, _, _ => none
  | k + 1, x5, x25, x5014000, x5014001, x5014002, x5014003, x5015000, x5015001, x5015002, x5015003 => if x25 = true then ((spec_GapOf.f k x5014000 x5014001 x5014002 x5014003 x5015000 x5015001 x5015002 x5015003).bind fun t5017 => (some (x5 == t5017))) else ((laws_equalImage.f k x5014000 x5014001 x5014002 x5014003 x5015000 x5015001 x5015002 x5015003).bind fun t5018 => (if ((x5 == 0) == t5018) = true then ((impl_GapOf.f k x5015000 x5015001 x5015002 x5015003 x5014000 x5014001 x5014002 x5014003).bind fun t5019 => (if t5019 = x5 then ((impl_InvertImage.f x5014000 x5014001 x5014002 x5014003).bind fun bt5020 => ((impl_InvertImage.f x5015000 x5015001 x5015002 x5015003).bind fun bt5026 => ((impl_GapOf.f k bt5020.1 bt5020.2.1 bt5020.2.2.1 bt5020.2.2.2 bt5026.1 bt5026.2.1 bt5026.2.2.1 bt5026.2.2.2).bind fun t5032 => (some (t5032 == x5))))) else (some false))) else (some false)))
def laws_FnGapOf.f (k : Nat) (l0 : List Int) : Option (Bool) := if (l0.length : Int) > 1048576 then (some true) else ((spec_DrawGapOf.f k l0).bind fun bt5001 => ((impl_GapOf.f k bt5001.1 bt5001.2.1 bt5001.2.2.1 bt5001.2.2.2.1 bt5001.2.2.2.2.1 bt5001.2.2.2.2.2.1 bt5001.2.2.2.2.2.2.1 bt5001.2.2.2.2.2.2.2).bind fun t5015 => ((spec_GapOf.f k bt5001.1 bt5001.2.1 bt5001.2.2.1 bt5001.2.2.2.1 bt5001.2.2.2.2.1 bt5001.2.2.2.2.2.1 bt5001.2.2.2.2.2.2.1 bt5001.2.2.2.2.2.2.2).bind fun t5016 => (if t5015 = t5016 then (laws_FnGapOf.j0 k t5015 (decide (t5015 < 0)) bt5001.1 bt5001.2.1 bt5001.2.2.1 bt5001.2.2.2.1 bt5001.2.2.2.2.1 bt5001.2.2.2.2.2.1 bt5001.2.2.2.2.2.2.1 bt5001.2.2.2.2.2.2.2) else (laws_FnGapOf.j0 k t5015 true bt5001.1 bt5001.2.1 bt5001.2.2.1 bt5001.2.2.2.1 bt5001.2.2.2.2.1 bt5001.2.2.2.2.2.1 bt5001.2.2.2.2.2.2.1 bt5001.2.2.2.2.2.2.2)))))
theorem laws_FnGapOf.mono_l : ∀ k, (∀ y0 y1 y2 y3 y4 y5 y6 y7 y8 y9, LeO (laws_FnGapOf.j0 k y0 y1 y2 y3 y4 y5 y6 y7 y8 y9) (laws_FnGapOf.j0 (k + 1) y0 y1 y2 y3 y4 y5 y6 y7 y8 y9))
  | 0 => fun _ _ _ _ _ _ _ _ _ _ r h => by simp [laws_FnGapOf.j0] at h
  | k + 1 => by
    have ih0 := laws_FnGapOf.mono_l k
    · intro y0 y1 y2 y3 y4 y5 y6 y7 y8 y9
      unfold laws_FnGapOf.j0
      repeat' first
      | (with_reducible exact ih0 _ _ _ _ _ _ _ _ _ _)
      | (with_reducible exact impl_GapOf.mono _ _ _ _ _ _ _ _ _)
      | (with_reducible exact laws_equalImage.mono _ _ _ _ _ _ _ _ _)
      | (with_reducible exact spec_DrawGapOf.mono _ _)
      | (with_reducible exact spec_GapOf.mono _ _ _ _ _ _ _ _ _)
      | (with_reducible exact LeO.refl _)
      | (with_reducible exact LeO.none _)
      | (with_reducible refine LeO.ite ?_ ?_)
      | (with_reducible refine LeO.bind ?_ (fun _ => ?_))
      | exact ih0 _ _ _ _ _ _ _ _ _ _
      | exact impl_GapOf.mono _ _ _ _ _ _ _ _ _
      | exact laws_equalImage.mono _ _ _ _ _ _ _ _ _
      | exact spec_DrawGapOf.mono _ _
      | exact spec_GapOf.mono _ _ _ _ _ _ _ _ _
      | exact LeO.none _
      | refine LeO.ite ?_ ?_
      | refine LeO.bind ?_ (fun _ => ?_)
theorem laws_FnGapOf.mono : ∀ a0 k, LeO (laws_FnGapOf.f k a0) (laws_FnGapOf.f (k + 1) a0) := by
  intro a0 k
  have ih0 := laws_FnGapOf.mono_l k
  unfold laws_FnGapOf.f
  repeat' first
      | (with_reducible exact ih0 _ _ _ _ _ _ _ _ _ _)
      | (with_reducible exact impl_GapOf.mono _ _ _ _ _ _ _ _ _)
      | (with_reducible exact laws_equalImage.mono _ _ _ _ _ _ _ _ _)
      | (with_reducible exact spec_DrawGapOf.mono _ _)
      | (with_reducible exact spec_GapOf.mono _ _ _ _ _ _ _ _ _)
      | (with_reducible exact LeO.refl _)
      | (with_reducible exact LeO.none _)
      | (with_reducible refine LeO.ite ?_ ?_)
      | (with_reducible refine LeO.bind ?_ (fun _ => ?_))
      | exact ih0 _ _ _ _ _ _ _ _ _ _
      | exact impl_GapOf.mono _ _ _ _ _ _ _ _ _
      | exact laws_equalImage.mono _ _ _ _ _ _ _ _ _
      | exact spec_DrawGapOf.mono _ _
      | exact spec_GapOf.mono _ _ _ _ _ _ _ _ _
      | exact LeO.none _
      | refine LeO.ite ?_ ?_
      | refine LeO.bind ?_ (fun _ => ?_)
def laws_FnGapOf.T7 : Bool × List (List Nat × List Nat) := (true, [([], []), ([0], [0]), ([], []), ([], []), ([2, 3], [2, 3]), ([1, 4], [1, 4]), ([5, 4], [5]), ([6], [6]), ([6], [6]), ([7, 8, 6, 6], [6, 7, 8]), ([6], [6]), ([9, 10, 6], [6, 9, 10]), ([6, 11], [6, 11]), ([12, 9], [12]), ([13], [13]), ([14, 13, 13], [13, 14]), ([13], [13]), ([16, 15, 13], [13, 16]), ([15, 17, 17, 13], [13, 15, 17]), ([13], [13]), ([18, 19, 13], [13, 18, 19]), ([13, 20], [13, 20]), ([21, 18, 0, 1, 2, 3, 4, 5, 6, 7, 8, 9, 10, 11, 12, 13, 14, 15, 16, 17, 18, 19, 20, 21], [21])])
def laws_FnGapOf.B7 : List Nat := [0, 1, 0, 0, 12, 31, 63, 127, 127, 511, 127, 2047, 4095, 8191, 16383, 32767, 16383, 131071, 262143, 16383, 1048575, 2097151, 4194303]
theorem laws_FnGapOf.tab7 : rtab .any (opsOf Try.f4 7) = laws_FnGapOf.T7 := by kernel_rfl
theorem laws_FnGapOf.bits7 : waitsOk laws_FnGapOf.T7.2 laws_FnGapOf.B7 = true := by kernel_rfl
set_option maxHeartbeats 8000000 in
set_option maxRecDepth 100000 in
theorem laws_FnGapOf.calls (k : Nat) (A0 : Option Addr) (c0 : Nat) (l0 : List Int) (r : Bool) (w : World) (hr0 : Kd.C (Kd.int .u8) w A0 l0.length l0) (hc0 : l0.length ≤ c0) (h : laws_FnGapOf.f k l0 = some r) (hrt : r = true) :
    Calls Try.prog 4 #[.slice A0 l0.length c0] w fun e w' => e = .returned (.bool r) ∧ Below w.heap.size w w' := by
  have HRT := Aside0.mk hrt
  clear hrt
  have hu27 := Try.underlying27
  have HR0 := Aside0.mk hr0
  have HC0 := Aside0.mk hc0
  clear hr0 hc0
  have HB := Aside0.mk (Below.refl w.heap.size w)
  have H : (if (l0.length : Int) > 1048576 then (some true) else ((spec_DrawGapOf.f k l0).bind fun bt5001 => ((impl_GapOf.f k bt5001.1 bt5001.2.1 bt5001.2.2.1 bt5001.2.2.2.1 bt5001.2.2.2.2.1 bt5001.2.2.2.2.2.1 bt5001.2.2.2.2.2.2.1 bt5001.2.2.2.2.2.2.2).bind fun t5015 => ((spec_GapOf.f k bt5001.1 bt5001.2.1 bt5001.2.2.1 bt5001.2.2.2.1 bt5001.2.2.2.2.1 bt5001.2.2.2.2.2.1 bt5001.2.2.2.2.2.2.1 bt5001.2.2.2.2.2.2.2).bind fun t5016 => (if t5015 = t5016 then (laws_FnGapOf.j0 k t5015 (decide (t5015 < 0)) bt5001.1 bt5001.2.1 bt5001.2.2.1 bt5001.2.2.2.1 bt5001.2.2.2.2.1 bt5001.2.2.2.2.2.1 bt5001.2.2.2.2.2.2.1 bt5001.2.2.2.2.2.2.2) else (laws_FnGapOf.j0 k t5015 true bt5001.1 bt5001.2.1 bt5001.2.2.1 bt5001.2.2.2.1 bt5001.2.2.2.2.1 bt5001.2.2.2.2.2.1 bt5001.2.2.2.2.2.2.1 bt5001.2.2.2.2.2.2.2)))))) = some r := h
  clear h
  by_cases c2 : (l0.length : Int) > 1048576
  · rw [if_pos c2] at H
    have c2b0 : decide (1048576 < (l0.length : Int)) = true := decide_eq_true c2
    have c2b1 : decide (1048576 < l0.length) = true := decide_eq_true (by omega)
    clear c2
    obtain rfl := Option.some.inj H
    go_enter Try.func4, Try.ntmps4
    go_wp2
    go_ret
    exact ⟨by first | rfl | (simp [errW_none, errW_some] <;> rfl) | (simp [*, errW_none, errW_some] <;> rfl), by repeat (first | (with_reducible first | exact HB.out | apply below_alloc | apply pw_below_drewN | apply below_drew1) | exact HB.out)⟩
  · rw [if_neg c2] at H
    have c2b0 : decide (1048576 < (l0.length : Int)) = false := decide_eq_false c2
    have c2b1 : decide (1048576 < l0.length) = false := decide_eq_false (by omega)
    clear c2
    replace H := Option.bind_eq_some_iff.mp H
    obtain ⟨⟨t5001, t5002, t5003, t5004, t5007, t5008, t5009, t5010⟩, A30, H⟩ := H
    replace H : ((impl_GapOf.f k t5001 t5002 t5003 t5004 t5007 t5008 t5009 t5010).bind fun t5015 => ((spec_GapOf.f k t5001 t5002 t5003 t5004 t5007 t5008 t5009 t5010).bind fun t5016 => (if t5015 = t5016 then (laws_FnGapOf.j0 k t5015 (decide (t5015 < 0)) t5001 t5002 t5003 t5004 t5007 t5008 t5009 t5010) else (laws_FnGapOf.j0 k t5015 true t5001 t5002 t5003 t5004 t5007 t5008 t5009 t5010)))) = some r := H
    have A3 := Aside0.mk A30
    clear A30
    replace H := Option.bind_eq_some_iff.mp H
    obtain ⟨t5015, A40, H⟩ := H
    replace H : ((spec_GapOf.f k t5001 t5002 t5003 t5004 t5007 t5008 t5009 t5010).bind fun t5016 => (if t5015 = t5016 then (laws_FnGapOf.j0 k t5015 (decide (t5015 < 0)) t5001 t5002 t5003 t5004 t5007 t5008 t5009 t5010) else (laws_FnGapOf.j0 k t5015 true t5001 t5002 t5003 t5004 t5007 t5008 t5009 t5010))) = some r := H
    have A4 := Aside0.mk A40
    clear A40
    have HC5 := Aside0.mk H
    clear H
    go_enter Try.func4, Try.ntmps4
    go_upto_region 5 with (first | ((with_reducible refine gate_callee (f := 25) rfl ?_); refine goesL_ (some 11) rfl rfl Try.func25 (by kernel_rfl) rfl #[.slice A0 l0.length c0] rfl (by (try simp only [List.map_toArray, List.map_cons, List.map_nil]); first | done | rfl | (simp only [List.length_drop, List.length_take]; rfl)) ?_; (with_reducible refine (spec_DrawGapOf.calls k _ _ l0 t5001 t5002 t5003 t5004 t5007 t5008 t5009 t5010 _ ?side1 ?side2 A3.out).mono ?_); (case side1 => repeat (first | exact HR0.out | (with_reducible refine Kd.C_alloc ?_ _) | (with_reducible refine Kd.C_drewN ?_ _) | (with_reducible refine Kd.C_drew ?_))); (case side2 => exact HC0.out); rintro e w6 ⟨v5005, v5011, rfl, ho0, ho1, hb⟩; refine ⟨_, rfl, ?_⟩; have n0_ := Aside0.mk (Kd.Q_lower ho0 (below_size (by repeat (first | (with_reducible first | exact HB.out | apply below_alloc | apply pw_below_drewN | apply below_drew1) | exact HB.out)))); have n1_ := Aside0.mk (Kd.Q_lower ho1 (below_size (by repeat (first | (with_reducible first | exact HB.out | apply below_alloc | apply pw_below_drewN | apply below_drew1) | exact HB.out)))); have n2_ := Aside0.mk (below_step (by repeat (first | (with_reducible first | exact HB.out | apply below_alloc | apply pw_below_drewN | apply below_drew1) | exact HB.out)) hb); clear HB; have HO5006 := n0_; have HO5012 := n1_; have HB := n2_; clear n0_ n1_ n2_; (try clear hb); (try clear hb2); (try clear hk); (try clear hi); (try clear ho0); (try clear ho1)) | ((with_reducible refine gate_dst (N := 3) rfl ?_); refine box_event ?hg (N := 3) ?hd (cs := #[.int .i64 0, .int .i64 0, .int .i64 0, .slice none 0 0]) (t := 27) ?hr ?_; (case hd => rfl); (case hg => rfl); (case hr => first | (go_simp; done) | (go_simp; rfl)); intro gb5013 hg w7 hbox hb; have n0_ := Aside0.mk (Kd.Q_below (by (with_reducible repeat (first | apply Kd.Q_alloc | apply Kd.Q_drewN | apply Kd.Q_drew)); exact HO5006.out) hb); have n1_ := Aside0.mk (Kd.Q_below (by (with_reducible repeat (first | apply Kd.Q_alloc | apply Kd.Q_drewN | apply Kd.Q_drew)); exact HO5012.out) hb); have n2_ := Aside0.mk (below_step (by repeat (first | (with_reducible first | exact HB.out | apply below_alloc | apply pw_below_drewN | apply below_drew1) | exact HB.out)) hb); have n3_ := Aside0.mk (hbox); have n4_ := Aside0.mk ((by rw [hg]; exact (below_size (by repeat (first | (with_reducible first | exact HB.out | apply below_alloc | apply pw_below_drewN | apply below_drew1) | exact HB.out))) : w.heap.size ≤ gb5013)); have n5_ := Aside0.mk ((by rw [hg]; exact (below_size (by repeat (first | (with_reducible first | exact HB.out | apply below_alloc | apply pw_below_drewN | apply below_drew1) | exact HB.out))) : w.heap.size ≤ gb5013)); clear HO5006; clear HO5012; clear HB; have HO5006 := n0_; have HO5012 := n1_; have HB := n2_; have BK5013 := n3_; have GW5013 := n4_; have GE5013 := n5_; clear n0_ n1_ n2_ n3_ n4_ n5_; clear hb hbox hg) | ((with_reducible refine gate_dst (N := 4) rfl ?_); refine box_event ?hg (N := 4) ?hd (cs := #[.int .i64 0, .int .i64 0, .int .i64 0, .slice none 0 0]) (t := 27) ?hr ?_; (case hd => rfl); (case hg => rfl); (case hr => first | (go_simp; done) | (go_simp; rfl)); intro gb5014 hg w8 hbox hb; have n0_ := Aside0.mk (Kd.Q_below (by (with_reducible repeat (first | apply Kd.Q_alloc | apply Kd.Q_drewN | apply Kd.Q_drew)); exact HO5006.out) hb); have n1_ := Aside0.mk (Kd.Q_below (by (with_reducible repeat (first | apply Kd.Q_alloc | apply Kd.Q_drewN | apply Kd.Q_drew)); exact HO5012.out) hb); have n2_ := Aside0.mk (blk_below (g := gb5013) (o := .cells #[.int .i64 0, .int .i64 0, .int .i64 0, .slice none 0 0] 27 (0, 0)) (by (with_reducible repeat (first | refine blk_drewN ?_ _ | refine blk_drew ?_ | refine blk_alloc ?_ _)); exact BK5013.out) hb); have n3_ := Aside0.mk (below_step (by repeat (first | (with_reducible first | exact HB.out | apply below_alloc | apply pw_below_drewN | apply below_drew1 | refine below_set ?_ GE5013.out) | exact HB.out)) hb); have n4_ := Aside0.mk (hbox); have n5_ := Aside0.mk ((by rw [hg]; exact (below_size (by repeat (first | (with_reducible first | exact HB.out | apply below_alloc | apply pw_below_drewN | apply below_drew1 | refine below_set ?_ GE5013.out) | exact HB.out))) : w.heap.size ≤ gb5014)); have n6_ := Aside0.mk ((by rw [hg]; exact (below_size (by repeat (first | (with_reducible first | exact HB.out | apply below_alloc | apply pw_below_drewN | apply below_drew1 | refine below_set ?_ GE5013.out) | exact HB.out))) : w.heap.size ≤ gb5014)); have n7_ := Aside0.mk ((by rw [hg]; exact Nat.ne_of_lt (blk_lt (g := gb5013) (o := .cells #[.int .i64 0, .int .i64 0, .int .i64 0, .slice none 0 0] 27 (0, 0)) (by (with_reducible repeat (first | refine blk_drewN ?_ _ | refine blk_drew ?_ | refine blk_alloc ?_ _)); exact BK5013.out)) : gb5013 ≠ gb5014)); have n8_ := Aside0.mk ((by rw [hg]; exact Nat.ne_of_gt (blk_lt (g := gb5013) (o := .cells #[.int .i64 0, .int .i64 0, .int .i64 0, .slice none 0 0] 27 (0, 0)) (by (with_reducible repeat (first | refine blk_drewN ?_ _ | refine blk_drew ?_ | refine blk_alloc ?_ _)); exact BK5013.out)) : gb5014 ≠ gb5013)); clear HO5006; clear HO5012; clear BK5013; clear HB; have HO5006 := n0_; have HO5012 := n1_; have BK5013 := n2_; have HB := n3_; have BK5014 := n4_; have GW5014 := n5_; have GE5014 := n6_; have NB5013_5014 := n7_; have NB5014_5013 := n8_; clear n0_ n1_ n2_ n3_ n4_ n5_ n6_ n7_ n8_; clear hb hbox hg; have hnb9 := NB5013_5014.out; have hnc9 := NB5014_5013.out; have hcz10_0 : w8.cell? ⟨gb5013, 0, none⟩ = some (.int .i64 0) := (blk_cell BK5013.out 0).trans rfl; have hcz10_1 : w8.cell? ⟨gb5013, 1, none⟩ = some (.int .i64 0) := (blk_cell BK5013.out 1).trans rfl; have hcz10_2 : w8.cell? ⟨gb5013, 2, none⟩ = some (.int .i64 0) := (blk_cell BK5013.out 2).trans rfl; have hcz10_3 : w8.cell? ⟨gb5013, 3, none⟩ = some (.slice none 0 0) := (blk_cell BK5013.out 3).trans rfl; have hfz10_0 := blk_frozen BK5013.out 0; have hfz10_1 := blk_frozen BK5013.out 1; have hfz10_2 := blk_frozen BK5013.out 2; have hfz10_3 := blk_frozen BK5013.out 3; obtain ⟨Ao11, co11, eo11, _⟩ := Kd.Q_slice HO5006.out; subst eo11; have hcz12_0 : w8.cell? ⟨gb5014, 0, none⟩ = some (.int .i64 0) := (blk_cell BK5014.out 0).trans rfl; have hcz12_1 : w8.cell? ⟨gb5014, 1, none⟩ = some (.int .i64 0) := (blk_cell BK5014.out 1).trans rfl; have hcz12_2 : w8.cell? ⟨gb5014, 2, none⟩ = some (.int .i64 0) := (blk_cell BK5014.out 2).trans rfl; have hcz12_3 : w8.cell? ⟨gb5014, 3, none⟩ = some (.slice none 0 0) := (blk_cell BK5014.out 3).trans rfl; have hfz12_0 := blk_frozen BK5014.out 0; have hfz12_1 := blk_frozen BK5014.out 1; have hfz12_2 := blk_frozen BK5014.out 2; have hfz12_3 := blk_frozen BK5014.out 3; obtain ⟨Ao13, co13, eo13, _⟩ := Kd.Q_slice HO5012.out; subst eo13) | ((with_reducible refine gate_callee (f := 23) rfl ?_); refine goesL_ (some 16) rfl rfl Try.func23 (by kernel_rfl) rfl #[.agg #[.int .i64 t5001, .int .i64 t5002, .int .i64 t5003, .slice Ao11 t5004.length co11], .agg #[.int .i64 t5007, .int .i64 t5008, .int .i64 t5009, .slice Ao13 t5010.length co13]] rfl (by (try simp only [List.map_toArray, List.map_cons, List.map_nil]); first | done | rfl | (simp only [List.length_drop, List.length_take]; rfl)) ?_; (with_reducible refine (impl_GapOf.calls k t5001 t5002 t5003 _ _ t5004 t5007 t5008 t5009 _ _ t5010 t5015 _ ?side1 ?side2 ?side3 ?side4 A4.out).mono ?_); (case side1 => refine (Kd.Q_reads' (e := 3) (base := w.heap.size) (ok := fun k_ => some k_ ≠ (.slice Ao13 t5010.length co13 : Value).ownBlock) (n := t5004.length) (c := co11) ?_).2.2; exact (by (with_reducible repeat (first | apply Kd.Q_alloc | apply Kd.Q_drewN | apply Kd.Q_drew)); exact (Kd.Q_mono (Kd.Q_mono (Kd.Q_far (p := ⟨gb5014, 3, none⟩) (Kd.Q_far (p := ⟨gb5014, 2, none⟩) (Kd.Q_far (p := ⟨gb5014, 1, none⟩) (Kd.Q_far (p := ⟨gb5014, 0, none⟩) (Kd.Q_far (p := ⟨gb5013, 3, none⟩) (Kd.Q_far (p := ⟨gb5013, 2, none⟩) (Kd.Q_far (p := ⟨gb5013, 1, none⟩) (Kd.Q_far (p := ⟨gb5013, 0, none⟩) (Kd.Q_types (Kd.Q_types HO5006.out BK5013.out (by decide)) BK5014.out (by decide)) (fun _ hk => hk.1.2) (.int .i64 t5001)) (fun _ hk => hk.1.2) (.int .i64 t5002)) (fun _ hk => hk.1.2) (.int .i64 t5003)) (fun _ hk => hk.1.2) (.slice Ao11 t5004.length co11)) (fun _ hk => hk.2) (.int .i64 t5007)) (fun _ hk => hk.2) (.int .i64 t5008)) (fun _ hk => hk.2) (.int .i64 t5009)) (fun _ hk => hk.2) (.slice Ao13 t5010.length co13)) (fun _ h_ => h_.1)) (fun _ h_ => h_.1)))); (case side2 => exact (Kd.Q_reads' HO5006.out).2.1); (case side3 => refine (Kd.Q_reads' (e := 3) (base := w.heap.size) (ok := fun k_ => some k_ ≠ (.slice Ao11 t5004.length co11 : Value).ownBlock) (n := t5010.length) (c := co13) ?_).2.2; exact (by (with_reducible repeat (first | apply Kd.Q_alloc | apply Kd.Q_drewN | apply Kd.Q_drew)); exact (Kd.Q_mono (Kd.Q_mono (Kd.Q_far (p := ⟨gb5014, 3, none⟩) (Kd.Q_far (p := ⟨gb5014, 2, none⟩) (Kd.Q_far (p := ⟨gb5014, 1, none⟩) (Kd.Q_far (p := ⟨gb5014, 0, none⟩) (Kd.Q_far (p := ⟨gb5013, 3, none⟩) (Kd.Q_far (p := ⟨gb5013, 2, none⟩) (Kd.Q_far (p := ⟨gb5013, 1, none⟩) (Kd.Q_far (p := ⟨gb5013, 0, none⟩) (Kd.Q_types (Kd.Q_types HO5012.out BK5013.out (by decide)) BK5014.out (by decide)) (fun _ hk => hk.1.2) (.int .i64 t5001)) (fun _ hk => hk.1.2) (.int .i64 t5002)) (fun _ hk => hk.1.2) (.int .i64 t5003)) (fun _ hk => hk.1.2) (.slice Ao11 t5004.length co11)) (fun _ hk => hk.2) (.int .i64 t5007)) (fun _ hk => hk.2) (.int .i64 t5008)) (fun _ hk => hk.2) (.int .i64 t5009)) (fun _ hk => hk.2) (.slice Ao13 t5010.length co13)) (fun _ h_ => h_.1)) (fun _ h_ => h_.1)))); (case side4 => exact (Kd.Q_reads' HO5012.out).2.1); rintro e w14 ⟨rfl, hb⟩; refine ⟨_, rfl, ?_⟩; have n0_ := Aside0.mk (Kd.Q_below (by (with_reducible repeat (first | apply Kd.Q_alloc | apply Kd.Q_drewN | apply Kd.Q_drew)); exact (Kd.Q_mono (Kd.Q_mono (Kd.Q_far (p := ⟨gb5014, 3, none⟩) (Kd.Q_far (p := ⟨gb5014, 2, none⟩) (Kd.Q_far (p := ⟨gb5014, 1, none⟩) (Kd.Q_far (p := ⟨gb5014, 0, none⟩) (Kd.Q_far (p := ⟨gb5013, 3, none⟩) (Kd.Q_far (p := ⟨gb5013, 2, none⟩) (Kd.Q_far (p := ⟨gb5013, 1, none⟩) (Kd.Q_far (p := ⟨gb5013, 0, none⟩) (Kd.Q_types (Kd.Q_types HO5006.out BK5013.out (by decide)) BK5014.out (by decide)) (fun _ hk => hk.1.2) (.int .i64 t5001)) (fun _ hk => hk.1.2) (.int .i64 t5002)) (fun _ hk => hk.1.2) (.int .i64 t5003)) (fun _ hk => hk.1.2) (.slice Ao11 t5004.length co11)) (fun _ hk => hk.2) (.int .i64 t5007)) (fun _ hk => hk.2) (.int .i64 t5008)) (fun _ hk => hk.2) (.int .i64 t5009)) (fun _ hk => hk.2) (.slice Ao13 t5010.length co13)) (fun _ h_ => h_.1)) (fun _ h_ => h_.1))) hb); have n1_ := Aside0.mk (Kd.Q_below (by (with_reducible repeat (first | apply Kd.Q_alloc | apply Kd.Q_drewN | apply Kd.Q_drew)); exact (Kd.Q_mono (Kd.Q_mono (Kd.Q_far (p := ⟨gb5014, 3, none⟩) (Kd.Q_far (p := ⟨gb5014, 2, none⟩) (Kd.Q_far (p := ⟨gb5014, 1, none⟩) (Kd.Q_far (p := ⟨gb5014, 0, none⟩) (Kd.Q_far (p := ⟨gb5013, 3, none⟩) (Kd.Q_far (p := ⟨gb5013, 2, none⟩) (Kd.Q_far (p := ⟨gb5013, 1, none⟩) (Kd.Q_far (p := ⟨gb5013, 0, none⟩) (Kd.Q_types (Kd.Q_types HO5012.out BK5013.out (by decide)) BK5014.out (by decide)) (fun _ hk => hk.1.2) (.int .i64 t5001)) (fun _ hk => hk.1.2) (.int .i64 t5002)) (fun _ hk => hk.1.2) (.int .i64 t5003)) (fun _ hk => hk.1.2) (.slice Ao11 t5004.length co11)) (fun _ hk => hk.2) (.int .i64 t5007)) (fun _ hk => hk.2) (.int .i64 t5008)) (fun _ hk => hk.2) (.int .i64 t5009)) (fun _ hk => hk.2) (.slice Ao13 t5010.length co13)) (fun _ h_ => h_.1)) (fun _ h_ => h_.1))) hb); have n2_ := Aside0.mk (blk_below (g := gb5013) (o := .cells #[.int .i64 t5001, .int .i64 t5002, .int .i64 t5003, .slice Ao11 t5004.length co11] 27 (0, 0)) (by (with_reducible repeat (first | refine blk_drewN ?_ _ | refine blk_drew ?_ | refine blk_alloc ?_ _)); refine blk_far ?_ NB5013_5014.out _; (with_reducible repeat (first | refine blk_drewN ?_ _ | refine blk_drew ?_ | refine blk_alloc ?_ _)); refine blk_far ?_ NB5013_5014.out _; (with_reducible repeat (first | refine blk_drewN ?_ _ | refine blk_drew ?_ | refine blk_alloc ?_ _)); refine blk_far ?_ NB5013_5014.out _; (with_reducible repeat (first | refine blk_drewN ?_ _ | refine blk_drew ?_ | refine blk_alloc ?_ _)); refine blk_far ?_ NB5013_5014.out _; (with_reducible repeat (first | refine blk_drewN ?_ _ | refine blk_drew ?_ | refine blk_alloc ?_ _)); refine blk_put (cs := #[.int .i64 t5001, .int .i64 t5002, .int .i64 t5003, .slice none 0 0]) ?_ 3 _ rfl; (with_reducible repeat (first | refine blk_drewN ?_ _ | refine blk_drew ?_ | refine blk_alloc ?_ _)); refine blk_put (cs := #[.int .i64 t5001, .int .i64 t5002, .int .i64 0, .slice none 0 0]) ?_ 2 _ rfl; (with_reducible repeat (first | refine blk_drewN ?_ _ | refine blk_drew ?_ | refine blk_alloc ?_ _)); refine blk_put (cs := #[.int .i64 t5001, .int .i64 0, .int .i64 0, .slice none 0 0]) ?_ 1 _ rfl; (with_reducible repeat (first | refine blk_drewN ?_ _ | refine blk_drew ?_ | refine blk_alloc ?_ _)); refine blk_put (cs := #[.int .i64 0, .int .i64 0, .int .i64 0, .slice none 0 0]) ?_ 0 _ rfl; (with_reducible repeat (first | refine blk_drewN ?_ _ | refine blk_drew ?_ | refine blk_alloc ?_ _)); exact BK5013.out) hb); have n3_ := Aside0.mk (blk_below (g := gb5014) (o := .cells #[.int .i64 t5007, .int .i64 t5008, .int .i64 t5009, .slice Ao13 t5010.length co13] 27 (0, 0)) (by (with_reducible repeat (first | refine blk_drewN ?_ _ | refine blk_drew ?_ | refine blk_alloc ?_ _)); refine blk_put (cs := #[.int .i64 t5007, .int .i64 t5008, .int .i64 t5009, .slice none 0 0]) ?_ 3 _ rfl; (with_reducible repeat (first | refine blk_drewN ?_ _ | refine blk_drew ?_ | refine blk_alloc ?_ _)); refine blk_put (cs := #[.int .i64 t5007, .int .i64 t5008, .int .i64 0, .slice none 0 0]) ?_ 2 _ rfl; (with_reducible repeat (first | refine blk_drewN ?_ _ | refine blk_drew ?_ | refine blk_alloc ?_ _)); refine blk_put (cs := #[.int .i64 t5007, .int .i64 0, .int .i64 0, .slice none 0 0]) ?_ 1 _ rfl; (with_reducible repeat (first | refine blk_drewN ?_ _ | refine blk_drew ?_ | refine blk_alloc ?_ _)); refine blk_put (cs := #[.int .i64 0, .int .i64 0, .int .i64 0, .slice none 0 0]) ?_ 0 _ rfl; (with_reducible repeat (first | refine blk_drewN ?_ _ | refine blk_drew ?_ | refine blk_alloc ?_ _)); refine blk_far ?_ NB5014_5013.out _; (with_reducible repeat (first | refine blk_drewN ?_ _ | refine blk_drew ?_ | refine blk_alloc ?_ _)); refine blk_far ?_ NB5014_5013.out _; (with_reducible repeat (first | refine blk_drewN ?_ _ | refine blk_drew ?_ | refine blk_alloc ?_ _)); refine blk_far ?_ NB5014_5013.out _; (with_reducible repeat (first | refine blk_drewN ?_ _ | refine blk_drew ?_ | refine blk_alloc ?_ _)); refine blk_far ?_ NB5014_5013.out _; (with_reducible repeat (first | refine blk_drewN ?_ _ | refine blk_drew ?_ | refine blk_alloc ?_ _)); exact BK5014.out) hb); have n4_ := Aside0.mk (below_step (by repeat (first | (with_reducible first | exact HB.out | apply below_alloc | apply pw_below_drewN | apply below_drew1 | refine below_set ?_ GE5013.out | refine below_set ?_ GE5014.out) | exact HB.out)) hb); clear HO5006; clear HO5012; clear BK5013; clear BK5014; clear HB; have HO5006 := n0_; have HO5012 := n1_; have BK5013 := n2_; have BK5014 := n3_; have HB := n4_; clear n0_ n1_ n2_ n3_ n4_; (try clear hb); (try clear hb2); (try clear hk); (try clear hi)))
    (try simp only [Act.put, List.setIfInBounds_toArray, List.set_cons_zero, List.set_cons_succ])
    go_cut [25] (fun v25 wc => ∃ (kq : Nat) (x25_4 : Bool), v25 = .bool x25_4 ∧ Aside0 (laws_FnGapOf.j0 kq t5015 x25_4 t5001 t5002 t5003 t5004 t5007 t5008 t5009 t5010 = some r) ∧ Aside0 (kq ≤ k) ∧ Aside0 (Kd.Q (Kd.int .i64) 3 wc w.heap.size (fun k_ => some k_ ≠ ((.slice Ao13 t5010.length co13) : Value).ownBlock) (.slice Ao11 t5004.length co11) t5004) ∧ Aside0 (Kd.Q (Kd.int .i64) 3 wc w.heap.size (fun k_ => some k_ ≠ ((.slice Ao11 t5004.length co11) : Value).ownBlock) (.slice Ao13 t5010.length co13) t5010) ∧ Aside0 (wc.heap[gb5013]? = some (.cells #[.int .i64 t5001, .int .i64 t5002, .int .i64 t5003, (.slice Ao11 t5004.length co11)] 27 (0, 0))) ∧ Aside0 (wc.heap[gb5014]? = some (.cells #[.int .i64 t5007, .int .i64 t5008, .int .i64 t5009, (.slice Ao13 t5010.length co13)] 27 (0, 0))) ∧ Aside0 (Below w.heap.size w wc))
    case first =>
      have H := HC5.out
      clear HC5
      replace H := Option.bind_eq_some_iff.mp H
      obtain ⟨t5016, A150, H⟩ := H
      replace H : (if t5015 = t5016 then (laws_FnGapOf.j0 k t5015 (decide (t5015 < 0)) t5001 t5002 t5003 t5004 t5007 t5008 t5009 t5010) else (laws_FnGapOf.j0 k t5015 true t5001 t5002 t5003 t5004 t5007 t5008 t5009 t5010)) = some r := H
      have A15 := Aside0.mk A150
      clear A150
      by_cases c16 : t5015 = t5016
      · rw [if_pos c16] at H
        have c16b0 : (t5015 == t5016) = true := beq_iff_eq.mpr c16
        have c16b1 : (t5015 != t5016) = false := bne_eq_false_iff_eq.mpr c16
        clear c16
        (first | rw [c16b0] | (simp only [i64_w, i32_w]; rw [c16b0]) | skip)
        have H' := Aside0.mk H
        clear H
        have hnb17 := NB5013_5014.out
        have hnc17 := NB5014_5013.out
        have hcz18_0 : w14.cell? ⟨gb5013, 0, none⟩ = some (.int .i64 t5001) := (blk_cell BK5013.out 0).trans rfl
        have hcz18_1 : w14.cell? ⟨gb5013, 1, none⟩ = some (.int .i64 t5002) := (blk_cell BK5013.out 1).trans rfl
        have hcz18_2 : w14.cell? ⟨gb5013, 2, none⟩ = some (.int .i64 t5003) := (blk_cell BK5013.out 2).trans rfl
        have hcz18_3 : w14.cell? ⟨gb5013, 3, none⟩ = some (.slice Ao11 t5004.length co11) := (blk_cell BK5013.out 3).trans rfl
        have hfz18_0 := blk_frozen BK5013.out 0
        have hfz18_1 := blk_frozen BK5013.out 1
        have hfz18_2 := blk_frozen BK5013.out 2
        have hfz18_3 := blk_frozen BK5013.out 3
        have hcz19_0 : w14.cell? ⟨gb5014, 0, none⟩ = some (.int .i64 t5007) := (blk_cell BK5014.out 0).trans rfl
        have hcz19_1 : w14.cell? ⟨gb5014, 1, none⟩ = some (.int .i64 t5008) := (blk_cell BK5014.out 1).trans rfl
        have hcz19_2 : w14.cell? ⟨gb5014, 2, none⟩ = some (.int .i64 t5009) := (blk_cell BK5014.out 2).trans rfl
        have hcz19_3 : w14.cell? ⟨gb5014, 3, none⟩ = some (.slice Ao13 t5010.length co13) := (blk_cell BK5014.out 3).trans rfl
        have hfz19_0 := blk_frozen BK5014.out 0
        have hfz19_1 := blk_frozen BK5014.out 1
        have hfz19_2 := blk_frozen BK5014.out 2
        have hfz19_3 := blk_frozen BK5014.out 3
        go_wp2_with (first | ((with_reducible refine gate_callee (f := 21) rfl ?_); refine goesL_ (some 20) rfl rfl Try.func21 (by kernel_rfl) rfl #[.agg #[.int .i64 t5001, .int .i64 t5002, .int .i64 t5003, .slice Ao11 t5004.length co11], .agg #[.int .i64 t5007, .int .i64 t5008, .int .i64 t5009, .slice Ao13 t5010.length co13]] rfl (by (try simp only [List.map_toArray, List.map_cons, List.map_nil]); first | done | rfl | (simp only [List.length_drop, List.length_take]; rfl)) ?_; (with_reducible refine (spec_GapOf.calls k t5001 t5002 t5003 _ _ t5004 t5007 t5008 t5009 _ _ t5010 t5016 _ ?side1 ?side2 ?side3 ?side4 A15.out).mono ?_); (case side1 => repeat (first | exact (Kd.Q_reads' HO5006.out).2.2 | (with_reducible refine Kd.C_alloc ?_ _) | (with_reducible refine Kd.C_drewN ?_ _) | (with_reducible refine Kd.C_drew ?_))); (case side2 => exact (Kd.Q_reads' HO5006.out).2.1); (case side3 => repeat (first | exact (Kd.Q_reads' HO5012.out).2.2 | (with_reducible refine Kd.C_alloc ?_ _) | (with_reducible refine Kd.C_drewN ?_ _) | (with_reducible refine Kd.C_drew ?_))); (case side4 => exact (Kd.Q_reads' HO5012.out).2.1); rintro e w20 ⟨rfl, hb⟩; refine ⟨_, rfl, ?_⟩; have n0_ := Aside0.mk (Kd.Q_below (by (with_reducible repeat (first | apply Kd.Q_alloc | apply Kd.Q_drewN | apply Kd.Q_drew)); exact HO5006.out) hb); have n1_ := Aside0.mk (Kd.Q_below (by (with_reducible repeat (first | apply Kd.Q_alloc | apply Kd.Q_drewN | apply Kd.Q_drew)); exact HO5012.out) hb); have n2_ := Aside0.mk (blk_below (g := gb5013) (o := .cells #[.int .i64 t5001, .int .i64 t5002, .int .i64 t5003, .slice Ao11 t5004.length co11] 27 (0, 0)) (by (with_reducible repeat (first | refine blk_drewN ?_ _ | refine blk_drew ?_ | refine blk_alloc ?_ _)); exact BK5013.out) hb); have n3_ := Aside0.mk (blk_below (g := gb5014) (o := .cells #[.int .i64 t5007, .int .i64 t5008, .int .i64 t5009, .slice Ao13 t5010.length co13] 27 (0, 0)) (by (with_reducible repeat (first | refine blk_drewN ?_ _ | refine blk_drew ?_ | refine blk_alloc ?_ _)); exact BK5014.out) hb); have n4_ := Aside0.mk (below_step (by repeat (first | (with_reducible first | exact HB.out | apply below_alloc | apply pw_below_drewN | apply below_drew1 | refine below_set ?_ GE5013.out | refine below_set ?_ GE5014.out) | exact HB.out)) hb); clear HO5006; clear HO5012; clear BK5013; clear BK5014; clear HB; have HO5006 := n0_; have HO5012 := n1_; have BK5013 := n2_; have BK5014 := n3_; have HB := n4_; clear n0_ n1_ n2_ n3_ n4_; (try clear hb); (try clear hb2); (try clear hk); (try clear hi)))
        go_meet
        case rel => exact ⟨_, (decide (t5015 < 0)), (by first | rfl | (simp; done) | (simp [*]; done)), H', ⟨by first | omega | exact Nat.le_refl _⟩, ⟨by (with_reducible repeat (first | apply Kd.Q_alloc | apply Kd.Q_drewN | apply Kd.Q_drew)); exact HO5006.out⟩, ⟨by (with_reducible repeat (first | apply Kd.Q_alloc | apply Kd.Q_drewN | apply Kd.Q_drew)); exact HO5012.out⟩, ⟨by (with_reducible repeat (first | refine blk_drewN ?_ _ | refine blk_drew ?_ | refine blk_alloc ?_ _)); exact BK5013.out⟩, ⟨by (with_reducible repeat (first | refine blk_drewN ?_ _ | refine blk_drew ?_ | refine blk_alloc ?_ _)); exact BK5014.out⟩, ⟨by repeat (first | (with_reducible first | exact HB.out | apply below_alloc | apply pw_below_drewN | apply below_drew1 | refine below_set ?_ GE5013.out | refine below_set ?_ GE5014.out) | exact HB.out)⟩⟩
      · rw [if_neg c16] at H
        have c16b0 : (t5015 == t5016) = false := beq_eq_false_iff_ne.mpr c16
        have c16b1 : (t5015 != t5016) = true := bne_iff_ne.mpr c16
        (first | rw [c16b0] | (simp only [i64_w, i32_w]; rw [c16b0]) | skip)
        have H' := Aside0.mk H
        clear H
        have hnb21 := NB5013_5014.out
        have hnc21 := NB5014_5013.out
        have hcz22_0 : w14.cell? ⟨gb5013, 0, none⟩ = some (.int .i64 t5001) := (blk_cell BK5013.out 0).trans rfl
        have hcz22_1 : w14.cell? ⟨gb5013, 1, none⟩ = some (.int .i64 t5002) := (blk_cell BK5013.out 1).trans rfl
        have hcz22_2 : w14.cell? ⟨gb5013, 2, none⟩ = some (.int .i64 t5003) := (blk_cell BK5013.out 2).trans rfl
        have hcz22_3 : w14.cell? ⟨gb5013, 3, none⟩ = some (.slice Ao11 t5004.length co11) := (blk_cell BK5013.out 3).trans rfl
        have hfz22_0 := blk_frozen BK5013.out 0
        have hfz22_1 := blk_frozen BK5013.out 1
        have hfz22_2 := blk_frozen BK5013.out 2
        have hfz22_3 := blk_frozen BK5013.out 3
        have hcz23_0 : w14.cell? ⟨gb5014, 0, none⟩ = some (.int .i64 t5007) := (blk_cell BK5014.out 0).trans rfl
        have hcz23_1 : w14.cell? ⟨gb5014, 1, none⟩ = some (.int .i64 t5008) := (blk_cell BK5014.out 1).trans rfl
        have hcz23_2 : w14.cell? ⟨gb5014, 2, none⟩ = some (.int .i64 t5009) := (blk_cell BK5014.out 2).trans rfl
        have hcz23_3 : w14.cell? ⟨gb5014, 3, none⟩ = some (.slice Ao13 t5010.length co13) := (blk_cell BK5014.out 3).trans rfl
        have hfz23_0 := blk_frozen BK5014.out 0
        have hfz23_1 := blk_frozen BK5014.out 1
        have hfz23_2 := blk_frozen BK5014.out 2
        have hfz23_3 := blk_frozen BK5014.out 3
        go_wp2_with (first | ((with_reducible refine gate_callee (f := 21) rfl ?_); refine goesL_ (some 20) rfl rfl Try.func21 (by kernel_rfl) rfl #[.agg #[.int .i64 t5001, .int .i64 t5002, .int .i64 t5003, .slice Ao11 t5004.length co11], .agg #[.int .i64 t5007, .int .i64 t5008, .int .i64 t5009, .slice Ao13 t5010.length co13]] rfl (by (try simp only [List.map_toArray, List.map_cons, List.map_nil]); first | done | rfl | (simp only [List.length_drop, List.length_take]; rfl)) ?_; (with_reducible refine (spec_GapOf.calls k t5001 t5002 t5003 _ _ t5004 t5007 t5008 t5009 _ _ t5010 t5016 _ ?side1 ?side2 ?side3 ?side4 A15.out).mono ?_); (case side1 => repeat (first | exact (Kd.Q_reads' HO5006.out).2.2 | (with_reducible refine Kd.C_alloc ?_ _) | (with_reducible refine Kd.C_drewN ?_ _) | (with_reducible refine Kd.C_drew ?_))); (case side2 => exact (Kd.Q_reads' HO5006.out).2.1); (case side3 => repeat (first | exact (Kd.Q_reads' HO5012.out).2.2 | (with_reducible refine Kd.C_alloc ?_ _) | (with_reducible refine Kd.C_drewN ?_ _) | (with_reducible refine Kd.C_drew ?_))); (case side4 => exact (Kd.Q_reads' HO5012.out).2.1); rintro e w24 ⟨rfl, hb⟩; refine ⟨_, rfl, ?_⟩; have n0_ := Aside0.mk (Kd.Q_below (by (with_reducible repeat (first | apply Kd.Q_alloc | apply Kd.Q_drewN | apply Kd.Q_drew)); exact HO5006.out) hb); have n1_ := Aside0.mk (Kd.Q_below (by (with_reducible repeat (first | apply Kd.Q_alloc | apply Kd.Q_drewN | apply Kd.Q_drew)); exact HO5012.out) hb); have n2_ := Aside0.mk (blk_below (g := gb5013) (o := .cells #[.int .i64 t5001, .int .i64 t5002, .int .i64 t5003, .slice Ao11 t5004.length co11] 27 (0, 0)) (by (with_reducible repeat (first | refine blk_drewN ?_ _ | refine blk_drew ?_ | refine blk_alloc ?_ _)); exact BK5013.out) hb); have n3_ := Aside0.mk (blk_below (g := gb5014) (o := .cells #[.int .i64 t5007, .int .i64 t5008, .int .i64 t5009, .slice Ao13 t5010.length co13] 27 (0, 0)) (by (with_reducible repeat (first | refine blk_drewN ?_ _ | refine blk_drew ?_ | refine blk_alloc ?_ _)); exact BK5014.out) hb); have n4_ := Aside0.mk (below_step (by repeat (first | (with_reducible first | exact HB.out | apply below_alloc | apply pw_below_drewN | apply below_drew1 | refine below_set ?_ GE5013.out | refine below_set ?_ GE5014.out) | exact HB.out)) hb); clear HO5006; clear HO5012; clear BK5013; clear BK5014; clear HB; have HO5006 := n0_; have HO5012 := n1_; have BK5013 := n2_; have BK5014 := n3_; have HB := n4_; clear n0_ n1_ n2_ n3_ n4_; (try clear hb); (try clear hb2); (try clear hk); (try clear hi)))
        go_meet
        case rel => exact ⟨_, (true), (by first | rfl | (simp; done) | (simp [*]; done)), H', ⟨by first | omega | exact Nat.le_refl _⟩, ⟨by (with_reducible repeat (first | apply Kd.Q_alloc | apply Kd.Q_drewN | apply Kd.Q_drew)); exact HO5006.out⟩, ⟨by (with_reducible repeat (first | apply Kd.Q_alloc | apply Kd.Q_drewN | apply Kd.Q_drew)); exact HO5012.out⟩, ⟨by (with_reducible repeat (first | refine blk_drewN ?_ _ | refine blk_drew ?_ | refine blk_alloc ?_ _)); exact BK5013.out⟩, ⟨by (with_reducible repeat (first | refine blk_drewN ?_ _ | refine blk_drew ?_ | refine blk_alloc ?_ _)); exact BK5014.out⟩, ⟨by repeat (first | (with_reducible first | exact HB.out | apply below_alloc | apply pw_below_drewN | apply below_drew1 | refine below_set ?_ GE5013.out | refine below_set ?_ GE5014.out) | exact HB.out)⟩⟩
    case rest =>
      clear HC5
      try clear c1
      try clear c2
      try clear c2b0
      try clear c2b1
      try clear p2
      try clear c4
      try clear c9
      try clear c16
      try clear c16b0
      try clear c16b1
      try clear c17
      try clear c21
      try clear c23
      try clear hcz10_0
      try clear hcz10_1
      try clear hcz10_2
      try clear hcz10_3
      try clear hcz12_0
      try clear hcz12_1
      try clear hcz12_2
      try clear hcz12_3
      try clear hcz18_0
      try clear hcz18_1
      try clear hcz18_2
      try clear hcz18_3
      try clear hcz19_0
      try clear hcz19_1
      try clear hcz19_2
      try clear hcz19_3
      try clear hcz22_0
      try clear hcz22_1
      try clear hcz22_2
      try clear hcz22_3
      try clear hcz23_0
      try clear hcz23_1
      try clear hcz23_2
      try clear hcz23_3
      try clear hfz10_0
      try clear hfz10_1
      try clear hfz10_2
      try clear hfz10_3
      try clear hfz12_0
      try clear hfz12_1
      try clear hfz12_2
      try clear hfz12_3
      try clear hfz18_0
      try clear hfz18_1
      try clear hfz18_2
      try clear hfz18_3
      try clear hfz19_0
      try clear hfz19_1
      try clear hfz19_2
      try clear hfz19_3
      try clear hfz22_0
      try clear hfz22_1
      try clear hfz22_2
      try clear hfz22_3
      try clear hfz23_0
      try clear hfz23_1
      try clear hfz23_2
      try clear hfz23_3
      obtain ⟨kq, x25_4, rfl, HA, HJ4, HO_5014003, HO_5015003, BK5013, BK5014, HB⟩ := hcut
      cases kq with
      | zero => exact absurd HA.out (by simp [laws_FnGapOf.j0])
      | succ kj4 =>
        have H := HA.out
        clear HA
        simp only [laws_FnGapOf.j0] at H
        by_cases c25 : x25_4 = true
        · subst c25
          have H1 : ((spec_GapOf.f kj4 t5001 t5002 t5003 t5004 t5007 t5008 t5009 t5010).bind fun t5017 => (some (t5015 == t5017))) = some r := by rw [if_pos rfl] at H; exact H
          clear H
          have H := H1
          clear H1
          replace H := Option.bind_eq_some_iff.mp H
          obtain ⟨t5017, A260, H⟩ := H
          replace H : (some (t5015 == t5017)) = some r := H
          have A26 := Aside0.mk A260
          clear A260
          obtain rfl := Option.some.inj H
          have hnb27 := NB5013_5014.out
          have hnc27 := NB5014_5013.out
          have hcz28_0 : wc.cell? ⟨gb5013, 0, none⟩ = some (.int .i64 t5001) := (blk_cell BK5013.out 0).trans rfl
          have hcz28_1 : wc.cell? ⟨gb5013, 1, none⟩ = some (.int .i64 t5002) := (blk_cell BK5013.out 1).trans rfl
          have hcz28_2 : wc.cell? ⟨gb5013, 2, none⟩ = some (.int .i64 t5003) := (blk_cell BK5013.out 2).trans rfl
          have hcz28_3 : wc.cell? ⟨gb5013, 3, none⟩ = some (.slice Ao11 t5004.length co11) := (blk_cell BK5013.out 3).trans rfl
          have hfz28_0 := blk_frozen BK5013.out 0
          have hfz28_1 := blk_frozen BK5013.out 1
          have hfz28_2 := blk_frozen BK5013.out 2
          have hfz28_3 := blk_frozen BK5013.out 3
          have hcz29_0 : wc.cell? ⟨gb5014, 0, none⟩ = some (.int .i64 t5007) := (blk_cell BK5014.out 0).trans rfl
          have hcz29_1 : wc.cell? ⟨gb5014, 1, none⟩ = some (.int .i64 t5008) := (blk_cell BK5014.out 1).trans rfl
          have hcz29_2 : wc.cell? ⟨gb5014, 2, none⟩ = some (.int .i64 t5009) := (blk_cell BK5014.out 2).trans rfl
          have hcz29_3 : wc.cell? ⟨gb5014, 3, none⟩ = some (.slice Ao13 t5010.length co13) := (blk_cell BK5014.out 3).trans rfl
          have hfz29_0 := blk_frozen BK5014.out 0
          have hfz29_1 := blk_frozen BK5014.out 1
          have hfz29_2 := blk_frozen BK5014.out 2
          have hfz29_3 := blk_frozen BK5014.out 3
          go_wp2_with (first | ((with_reducible refine gate_callee (f := 21) rfl ?_); refine goesL_ (some 29) rfl rfl Try.func21 (by kernel_rfl) rfl #[.agg #[.int .i64 t5001, .int .i64 t5002, .int .i64 t5003, .slice Ao11 t5004.length co11], .agg #[.int .i64 t5007, .int .i64 t5008, .int .i64 t5009, .slice Ao13 t5010.length co13]] rfl (by (try simp only [List.map_toArray, List.map_cons, List.map_nil]); first | done | rfl | (simp only [List.length_drop, List.length_take]; rfl)) ?_; (with_reducible refine (spec_GapOf.calls kj4 t5001 t5002 t5003 _ _ t5004 t5007 t5008 t5009 _ _ t5010 t5017 _ ?side1 ?side2 ?side3 ?side4 A26.out).mono ?_); (case side1 => repeat (first | exact (Kd.Q_reads' HO_5014003.out).2.2 | (with_reducible refine Kd.C_alloc ?_ _) | (with_reducible refine Kd.C_drewN ?_ _) | (with_reducible refine Kd.C_drew ?_))); (case side2 => exact (Kd.Q_reads' HO_5014003.out).2.1); (case side3 => repeat (first | exact (Kd.Q_reads' HO_5015003.out).2.2 | (with_reducible refine Kd.C_alloc ?_ _) | (with_reducible refine Kd.C_drewN ?_ _) | (with_reducible refine Kd.C_drew ?_))); (case side4 => exact (Kd.Q_reads' HO_5015003.out).2.1); rintro e w30 ⟨rfl, hb⟩; refine ⟨_, rfl, ?_⟩; have n0_ := Aside0.mk (Kd.Q_below (by (with_reducible repeat (first | apply Kd.Q_alloc | apply Kd.Q_drewN | apply Kd.Q_drew)); exact HO_5014003.out) hb); have n1_ := Aside0.mk (Kd.Q_below (by (with_reducible repeat (first | apply Kd.Q_alloc | apply Kd.Q_drewN | apply Kd.Q_drew)); exact HO_5015003.out) hb); have n2_ := Aside0.mk (blk_below (g := gb5013) (o := .cells #[.int .i64 t5001, .int .i64 t5002, .int .i64 t5003, .slice Ao11 t5004.length co11] 27 (0, 0)) (by (with_reducible repeat (first | refine blk_drewN ?_ _ | refine blk_drew ?_ | refine blk_alloc ?_ _)); exact BK5013.out) hb); have n3_ := Aside0.mk (blk_below (g := gb5014) (o := .cells #[.int .i64 t5007, .int .i64 t5008, .int .i64 t5009, .slice Ao13 t5010.length co13] 27 (0, 0)) (by (with_reducible repeat (first | refine blk_drewN ?_ _ | refine blk_drew ?_ | refine blk_alloc ?_ _)); exact BK5014.out) hb); have n4_ := Aside0.mk (below_step (by repeat (first | (with_reducible first | exact HB.out | apply below_alloc | apply pw_below_drewN | apply below_drew1 | refine below_set ?_ GE5013.out | refine below_set ?_ GE5014.out) | exact HB.out)) hb); clear HO_5014003; clear HO_5015003; clear BK5013; clear BK5014; clear HB; have HO_5014003 := n0_; have HO_5015003 := n1_; have BK5013 := n2_; have BK5014 := n3_; have HB := n4_; clear n0_ n1_ n2_ n3_ n4_; (try clear hb); (try clear hb2); (try clear hk); (try clear hi)))
          go_ret
          exact ⟨by first | rfl | (simp [errW_none, errW_some] <;> rfl) | (simp [*, errW_none, errW_some] <;> rfl), by repeat (first | (with_reducible first | exact HB.out | apply below_alloc | apply pw_below_drewN | apply below_drew1 | refine below_set ?_ GE5013.out | refine below_set ?_ GE5014.out) | exact HB.out)⟩
        · replace c25 := Bool.eq_false_iff.mpr c25
          subst c25
          have H1 : ((laws_equalImage.f kj4 t5001 t5002 t5003 t5004 t5007 t5008 t5009 t5010).bind fun t5018 => (if ((t5015 == 0) == t5018) = true then ((impl_GapOf.f kj4 t5007 t5008 t5009 t5010 t5001 t5002 t5003 t5004).bind fun t5019 => (if t5019 = t5015 then ((impl_InvertImage.f t5001 t5002 t5003 t5004).bind fun bt5020 => ((impl_InvertImage.f t5007 t5008 t5009 t5010).bind fun bt5026 => ((impl_GapOf.f kj4 bt5020.1 bt5020.2.1 bt5020.2.2.1 bt5020.2.2.2 bt5026.1 bt5026.2.1 bt5026.2.2.1 bt5026.2.2.2).bind fun t5032 => (some (t5032 == t5015))))) else (some false))) else (some false))) = some r := by rw [if_neg (show ¬ (false = true) by decide)] at H; exact H
          clear H
          have H := H1
          clear H1
          replace H := Option.bind_eq_some_iff.mp H
          obtain ⟨t5018, A310, H⟩ := H
          replace H : (if ((t5015 == 0) == t5018) = true then ((impl_GapOf.f kj4 t5007 t5008 t5009 t5010 t5001 t5002 t5003 t5004).bind fun t5019 => (if t5019 = t5015 then ((impl_InvertImage.f t5001 t5002 t5003 t5004).bind fun bt5020 => ((impl_InvertImage.f t5007 t5008 t5009 t5010).bind fun bt5026 => ((impl_GapOf.f kj4 bt5020.1 bt5020.2.1 bt5020.2.2.1 bt5020.2.2.2 bt5026.1 bt5026.2.1 bt5026.2.2.1 bt5026.2.2.2).bind fun t5032 => (some (t5032 == t5015))))) else (some false))) else (some false)) = some r := H
          have A31 := Aside0.mk A310
          clear A310
          by_cases c32 : ((t5015 == 0) == t5018) = true
          · rw [if_pos c32] at H
            have c32b0 : ((t5015 == 0) == t5018) = true := c32
            (try (have c32b1 : decide ((t5015 == 0) = t5018) = true := by simpa using c32))
            (try (have c32b2 : ((t5015 == 0) == t5018) = true := by simpa using c32))
            clear c32
            replace H := Option.bind_eq_some_iff.mp H
            obtain ⟨t5019, A330, H⟩ := H
            replace H : (if t5019 = t5015 then ((impl_InvertImage.f t5001 t5002 t5003 t5004).bind fun bt5020 => ((impl_InvertImage.f t5007 t5008 t5009 t5010).bind fun bt5026 => ((impl_GapOf.f kj4 bt5020.1 bt5020.2.1 bt5020.2.2.1 bt5020.2.2.2 bt5026.1 bt5026.2.1 bt5026.2.2.1 bt5026.2.2.2).bind fun t5032 => (some (t5032 == t5015))))) else (some false)) = some r := H
            have A33 := Aside0.mk A330
            clear A330
            by_cases c34 : t5019 = t5015
            · rw [if_pos c34] at H
              have c34b0 : (t5019 == t5015) = true := beq_iff_eq.mpr c34
              have c34b1 : (t5019 != t5015) = false := bne_eq_false_iff_eq.mpr c34
              clear c34
              replace H := Option.bind_eq_some_iff.mp H
              obtain ⟨⟨t5020, t5021, t5022, t5023⟩, A350, H⟩ := H
              replace H : ((impl_InvertImage.f t5007 t5008 t5009 t5010).bind fun bt5026 => ((impl_GapOf.f kj4 t5020 t5021 t5022 t5023 bt5026.1 bt5026.2.1 bt5026.2.2.1 bt5026.2.2.2).bind fun t5032 => (some (t5032 == t5015)))) = some r := H
              have A35 := Aside0.mk A350
              clear A350
              replace H := Option.bind_eq_some_iff.mp H
              obtain ⟨⟨t5026, t5027, t5028, t5029⟩, A360, H⟩ := H
              replace H : ((impl_GapOf.f kj4 t5020 t5021 t5022 t5023 t5026 t5027 t5028 t5029).bind fun t5032 => (some (t5032 == t5015))) = some r := H
              have A36 := Aside0.mk A360
              clear A360
              replace H := Option.bind_eq_some_iff.mp H
              obtain ⟨t5032, A370, H⟩ := H
              replace H : (some (t5032 == t5015)) = some r := H
              have A37 := Aside0.mk A370
              clear A370
              obtain rfl := Option.some.inj H
              try go_wp2
              have n0_ := Aside0.mk (Kd.Q_drew HO_5014003.out)
              have n1_ := Aside0.mk (Kd.Q_drew HO_5015003.out)
              have n2_ := Aside0.mk (blk_drew BK5013.out)
              have n3_ := Aside0.mk (blk_drew BK5014.out)
              have n4_ := Aside0.mk (below_drew1 HB.out)
              clear HO_5014003
              clear HO_5015003
              clear BK5013
              clear BK5014
              clear HB
              have HO_5014003 := n0_
              have HO_5015003 := n1_
              have BK5013 := n2_
              have BK5014 := n3_
              have HB := n4_
              clear n0_ n1_ n2_ n3_ n4_
              refine start_ (n := 23) (S := fun w' => w'.cell? ⟨gb5013, 0, none⟩ = some (.int .i64 t5001) ∧ w'.cell? ⟨gb5013, 1, none⟩ = some (.int .i64 t5002) ∧ w'.cell? ⟨gb5013, 2, none⟩ = some (.int .i64 t5003) ∧ w'.cell? ⟨gb5013, 3, none⟩ = some (.slice Ao11 t5004.length co11) ∧ w'.cell? ⟨gb5014, 0, none⟩ = some (.int .i64 t5007) ∧ w'.cell? ⟨gb5014, 1, none⟩ = some (.int .i64 t5008) ∧ w'.cell? ⟨gb5014, 2, none⟩ = some (.int .i64 t5009) ∧ w'.cell? ⟨gb5014, 3, none⟩ = some (.slice Ao13 t5010.length co13)) (ds := []) #[false, false, false, false, false, false, false, false, false, false, false, false, false, false, false, false, false, false, false, false, false, false, false] (by kernel_rfl) rfl rfl ⟨(blk_cell BK5013.out 0).trans rfl, (blk_cell BK5013.out 1).trans rfl, (blk_cell BK5013.out 2).trans rfl, (blk_cell BK5013.out 3).trans rfl, (blk_cell BK5014.out 0).trans rfl, (blk_cell BK5014.out 1).trans rfl, (blk_cell BK5014.out 2).trans rfl, (blk_cell BK5014.out 3).trans rfl⟩ (fun hHeld => ?_); refine with_tabW laws_FnGapOf.tab7 laws_FnGapOf.bits7 (fun HT_ HW_ => ?_)
              generalize wc.drew = w38 at HO_5014003 HO_5015003 BK5013 BK5014 HB hHeld ⊢
              refine pure_ (i := 0) (N := some 31) (v := ?_) (a' := ?_) #[true, false, false, false, false, false, false, false, false, false, false, false, false, false, false, false, false, false, false, false, false, false, false] rfl rfl (any_of HT_.out (by kernel_rfl)) (fun _ _ _ h => h) (Or.inl ⟨by rfl, ?_⟩) ?_ ?_
              rotate_left
              · intro w'
                go_simp
                with_reducible rfl
              rotate_left
              · simp only [Act.put, List.setIfInBounds_toArray, List.set_cons_zero, List.set_cons_succ, i64_w, i32_w]
                rfl
              refine pure_ (i := 1) (N := some 32) (v := ?_) (a' := ?_) #[true, true, false, false, false, false, false, false, false, false, false, false, false, false, false, false, false, false, false, false, false, false, false] rfl rfl (any_of HT_.out (by kernel_rfl)) (fun _ _ _ h => h) (Or.inl ⟨by rfl, ?_⟩) ?_ ?_
              rotate_left
              · intro w'
                go_simp
                with_reducible rfl
              rotate_left
              · simp only [Act.put, List.setIfInBounds_toArray, List.set_cons_zero, List.set_cons_succ, i64_w, i32_w]
                rfl
              refine take_ (i := 2) (N := some 33) (v := ?_) (a' := ?_) #[true, true, true, false, false, false, false, false, false, false, false, false, false, false, false, false, false, false, false, false, false, false, false] rfl rfl (take_ofW HT_.out HW_.out (by kernel_rfl)) (fun _ _ _ h => h) (Or.inl ⟨by rfl, ?_⟩) hHeld ?_ ?_
              rotate_left
              · rintro w' ⟨s0, s1, s2, s3, s4, s5, s6, s7⟩
                go_simp
                with_reducible rfl
              rotate_left
              · simp only [Act.put, List.setIfInBounds_toArray, List.set_cons_zero, List.set_cons_succ, i64_w, i32_w]
                rfl
              refine take_ (i := 3) (N := some 34) (v := ?_) (a' := ?_) #[true, true, true, true, false, false, false, false, false, false, false, false, false, false, false, false, false, false, false, false, false, false, false] rfl rfl (take_ofW HT_.out HW_.out (by kernel_rfl)) (fun _ _ _ h => h) (Or.inl ⟨by rfl, ?_⟩) hHeld ?_ ?_
              rotate_left
              · rintro w' ⟨s0, s1, s2, s3, s4, s5, s6, s7⟩
                go_simp
                with_reducible rfl
              rotate_left
              · simp only [Act.put, List.setIfInBounds_toArray, List.set_cons_zero, List.set_cons_succ, i64_w, i32_w]
                rfl
              refine one_ (i := 4) (N := some 35) #[true, true, true, true, true, false, false, false, false, false, false, false, false, false, false, false, false, false, false, false, false, false, false] rfl rfl (one_of HT_.out (by kernel_rfl)) (by decide) (fun K hK => ?_)
              refine goes_ Try.func26 (by kernel_rfl) rfl #[.agg #[.int .i64 t5001, .int .i64 t5002, .int .i64 t5003, .slice Ao11 t5004.length co11], .agg #[.int .i64 t5007, .int .i64 t5008, .int .i64 t5009, .slice Ao13 t5010.length co13]] (by rfl) rfl rfl (by (try simp only [List.map_toArray, List.map_cons, List.map_nil]); first | done | rfl | (simp only [List.length_drop, List.length_take]; rfl)) ?_
              with_reducible refine (laws_equalImage.calls kj4 t5001 t5002 t5003 _ _ t5004 t5007 t5008 t5009 _ _ t5010 t5018 _ ?side1 ?side2 ?side3 ?side4 A31.out).mono ?_
              (case side1 => repeat (first | exact (Kd.Q_reads' HO_5014003.out).2.2 | (with_reducible refine Kd.C_alloc ?_ _) | (with_reducible refine Kd.C_drewN ?_ _) | (with_reducible refine Kd.C_drew ?_)))
              (case side2 => exact (Kd.Q_reads' HO_5014003.out).2.1)
              (case side3 => repeat (first | exact (Kd.Q_reads' HO_5015003.out).2.2 | (with_reducible refine Kd.C_alloc ?_ _) | (with_reducible refine Kd.C_drewN ?_ _) | (with_reducible refine Kd.C_drew ?_)))
              (case side4 => exact (Kd.Q_reads' HO_5015003.out).2.1)
              rintro e w39 ⟨rfl, hb⟩
              refine ⟨_, rfl, ?_⟩
              have n0_ := Aside0.mk (Kd.Q_below (by (with_reducible repeat (first | apply Kd.Q_alloc | apply Kd.Q_drewN | apply Kd.Q_drew)); exact HO_5014003.out) hb)
              have n1_ := Aside0.mk (Kd.Q_below (by (with_reducible repeat (first | apply Kd.Q_alloc | apply Kd.Q_drewN | apply Kd.Q_drew)); exact HO_5015003.out) hb)
              have n2_ := Aside0.mk (blk_below (g := gb5013) (o := .cells #[.int .i64 t5001, .int .i64 t5002, .int .i64 t5003, .slice Ao11 t5004.length co11] 27 (0, 0)) (by (with_reducible repeat (first | refine blk_drewN ?_ _ | refine blk_drew ?_ | refine blk_alloc ?_ _)); exact BK5013.out) hb)
              have n3_ := Aside0.mk (blk_below (g := gb5014) (o := .cells #[.int .i64 t5007, .int .i64 t5008, .int .i64 t5009, .slice Ao13 t5010.length co13] 27 (0, 0)) (by (with_reducible repeat (first | refine blk_drewN ?_ _ | refine blk_drew ?_ | refine blk_alloc ?_ _)); exact BK5014.out) hb)
              have n4_ := Aside0.mk (below_step (by repeat (first | (with_reducible first | exact HB.out | apply below_alloc | apply pw_below_drewN | apply below_drew1 | refine below_set ?_ GE5013.out | refine below_set ?_ GE5014.out) | exact HB.out)) hb)
              clear HO_5014003
              clear HO_5015003
              clear BK5013
              clear BK5014
              clear HB
              have HO_5014003 := n0_
              have HO_5015003 := n1_
              have BK5013 := n2_
              have BK5014 := n3_
              have HB := n4_
              clear n0_ n1_ n2_ n3_ n4_
              (try clear hb)
              (try clear hb2)
              (try clear hk)
              (try clear hi)
              refine hK.out _ _ ⟨(blk_cell BK5013.out 0).trans rfl, (blk_cell BK5013.out 1).trans rfl, (blk_cell BK5013.out 2).trans rfl, (blk_cell BK5013.out 3).trans rfl, (blk_cell BK5014.out 0).trans rfl, (blk_cell BK5014.out 1).trans rfl, (blk_cell BK5014.out 2).trans rfl, (blk_cell BK5014.out 3).trans rfl⟩ (fun hHeld => ?_)
              clear hK K
              refine norm_ (a' := ?_) ?_ ?_
              rotate_left
              · show Act.put _ (some 35) _ = _
                simp only [Act.put, List.setIfInBounds_toArray, List.set_cons_zero, List.set_cons_succ, i64_w, i32_w]
                rfl
              refine pure_ (i := 5) (N := some 36) (v := ?_) (a' := ?_) #[true, true, true, true, true, true, false, false, false, false, false, false, false, false, false, false, false, false, false, false, false, false, false] rfl rfl (any_of HT_.out (by kernel_rfl)) (fun _ _ _ h => h) (Or.inl ⟨by rfl, ?_⟩) ?_ ?_
              rotate_left
              · intro w'
                go_simp
                with_reducible rfl
              rotate_left
              · simp only [Act.put, List.setIfInBounds_toArray, List.set_cons_zero, List.set_cons_succ, i64_w, i32_w]
                rfl
              refine pure_ (i := 6) (N := some 37) (v := ?_) (a' := ?_) #[true, true, true, true, true, true, true, false, false, false, false, false, false, false, false, false, false, false, false, false, false, false, false] rfl rfl (any_of HT_.out (by kernel_rfl)) (fun _ _ _ h => h) (Or.inl ⟨by rfl, ?_⟩) ?_ ?_
              rotate_left
              · intro w'
                go_simp
                with_reducible rfl
              rotate_left
              · simp only [Act.put, List.setIfInBounds_toArray, List.set_cons_zero, List.set_cons_succ, i64_w, i32_w]
                rfl
              refine pure_ (i := 10) (N := some 41) (v := ?_) (a' := ?_) #[true, true, true, true, true, true, true, false, false, false, true, false, false, false, false, false, false, false, false, false, false, false, false] rfl rfl (any_of HT_.out (by kernel_rfl)) (fun _ _ _ h => h) (Or.inl ⟨by rfl, ?_⟩) ?_ ?_
              rotate_left
              · intro w'
                go_simp
                with_reducible rfl
              rotate_left
              · simp only [Act.put, List.setIfInBounds_toArray, List.set_cons_zero, List.set_cons_succ, i64_w, i32_w]
                rfl
              refine take_ (i := 7) (N := some 38) (v := ?_) (a' := ?_) #[true, true, true, true, true, true, true, true, false, false, true, false, false, false, false, false, false, false, false, false, false, false, false] rfl rfl (take_ofW HT_.out HW_.out (by kernel_rfl)) (fun _ _ _ h => h) (Or.inl ⟨by rfl, ?_⟩) hHeld ?_ ?_
              rotate_left
              · rintro w' ⟨s0, s1, s2, s3, s4, s5, s6, s7⟩
                go_simp
                with_reducible rfl
              rotate_left
              · simp only [Act.put, List.setIfInBounds_toArray, List.set_cons_zero, List.set_cons_succ, i64_w, i32_w]
                rfl
              refine take_ (i := 8) (N := some 39) (v := ?_) (a' := ?_) #[true, true, true, true, true, true, true, true, true, false, true, false, false, false, false, false, false, false, false, false, false, false, false] rfl rfl (take_ofW HT_.out HW_.out (by kernel_rfl)) (fun _ _ _ h => h) (Or.inl ⟨by rfl, ?_⟩) hHeld ?_ ?_
              rotate_left
              · rintro w' ⟨s0, s1, s2, s3, s4, s5, s6, s7⟩
                go_simp
                with_reducible rfl
              rotate_left
              · simp only [Act.put, List.setIfInBounds_toArray, List.set_cons_zero, List.set_cons_succ, i64_w, i32_w]
                rfl
              refine one_ (i := 9) (N := some 40) #[true, true, true, true, true, true, true, true, true, true, true, false, false, false, false, false, false, false, false, false, false, false, false] rfl rfl (one_of HT_.out (by kernel_rfl)) (by decide) (fun K hK => ?_)
              refine goes_ Try.func23 (by kernel_rfl) rfl #[.agg #[.int .i64 t5007, .int .i64 t5008, .int .i64 t5009, .slice Ao13 t5010.length co13], .agg #[.int .i64 t5001, .int .i64 t5002, .int .i64 t5003, .slice Ao11 t5004.length co11]] (by rfl) rfl rfl (by (try simp only [List.map_toArray, List.map_cons, List.map_nil]); first | done | rfl | (simp only [List.length_drop, List.length_take]; rfl)) ?_
              with_reducible refine (impl_GapOf.calls kj4 t5007 t5008 t5009 _ _ t5010 t5001 t5002 t5003 _ _ t5004 t5019 _ ?side1 ?side2 ?side3 ?side4 A33.out).mono ?_
              (case side1 => repeat (first | exact (Kd.Q_reads' HO_5015003.out).2.2 | (with_reducible refine Kd.C_alloc ?_ _) | (with_reducible refine Kd.C_drewN ?_ _) | (with_reducible refine Kd.C_drew ?_)))
              (case side2 => exact (Kd.Q_reads' HO_5015003.out).2.1)
              (case side3 => repeat (first | exact (Kd.Q_reads' HO_5014003.out).2.2 | (with_reducible refine Kd.C_alloc ?_ _) | (with_reducible refine Kd.C_drewN ?_ _) | (with_reducible refine Kd.C_drew ?_)))
              (case side4 => exact (Kd.Q_reads' HO_5014003.out).2.1)
              rintro e w40 ⟨rfl, hb⟩
              refine ⟨_, rfl, ?_⟩
              have n0_ := Aside0.mk (Kd.Q_below (by (with_reducible repeat (first | apply Kd.Q_alloc | apply Kd.Q_drewN | apply Kd.Q_drew)); exact HO_5014003.out) hb)
              have n1_ := Aside0.mk (Kd.Q_below (by (with_reducible repeat (first | apply Kd.Q_alloc | apply Kd.Q_drewN | apply Kd.Q_drew)); exact HO_5015003.out) hb)
              have n2_ := Aside0.mk (blk_below (g := gb5013) (o := .cells #[.int .i64 t5001, .int .i64 t5002, .int .i64 t5003, .slice Ao11 t5004.length co11] 27 (0, 0)) (by (with_reducible repeat (first | refine blk_drewN ?_ _ | refine blk_drew ?_ | refine blk_alloc ?_ _)); exact BK5013.out) hb)
              have n3_ := Aside0.mk (blk_below (g := gb5014) (o := .cells #[.int .i64 t5007, .int .i64 t5008, .int .i64 t5009, .slice Ao13 t5010.length co13] 27 (0, 0)) (by (with_reducible repeat (first | refine blk_drewN ?_ _ | refine blk_drew ?_ | refine blk_alloc ?_ _)); exact BK5014.out) hb)
              have n4_ := Aside0.mk (below_step (by repeat (first | (with_reducible first | exact HB.out | apply below_alloc | apply pw_below_drewN | apply below_drew1 | refine below_set ?_ GE5013.out | refine below_set ?_ GE5014.out) | exact HB.out)) hb)
              clear HO_5014003
              clear HO_5015003
              clear BK5013
              clear BK5014
              clear HB
              have HO_5014003 := n0_
              have HO_5015003 := n1_
              have BK5013 := n2_
              have BK5014 := n3_
              have HB := n4_
              clear n0_ n1_ n2_ n3_ n4_
              (try clear hb)
              (try clear hb2)
              (try clear hk)
              (try clear hi)
              refine hK.out _ _ ⟨(blk_cell BK5013.out 0).trans rfl, (blk_cell BK5013.out 1).trans rfl, (blk_cell BK5013.out 2).trans rfl, (blk_cell BK5013.out 3).trans rfl, (blk_cell BK5014.out 0).trans rfl, (blk_cell BK5014.out 1).trans rfl, (blk_cell BK5014.out 2).trans rfl, (blk_cell BK5014.out 3).trans rfl⟩ (fun hHeld => ?_)
              clear hK K
              refine norm_ (a' := ?_) ?_ ?_
              rotate_left
              · show Act.put _ (some 40) _ = _
                simp only [Act.put, List.setIfInBounds_toArray, List.set_cons_zero, List.set_cons_succ, i64_w, i32_w]
                rfl
              refine pure_ (i := 11) (N := some 42) (v := ?_) (a' := ?_) #[true, true, true, true, true, true, true, true, true, true, true, true, false, false, false, false, false, false, false, false, false, false, false] rfl rfl (any_of HT_.out (by kernel_rfl)) (fun _ _ _ h => h) (Or.inl ⟨by rfl, ?_⟩) ?_ ?_
              rotate_left
              · intro w'
                go_simp
                with_reducible rfl
              rotate_left
              · simp only [Act.put, List.setIfInBounds_toArray, List.set_cons_zero, List.set_cons_succ, i64_w, i32_w]
                rfl
              refine pure_ (i := 12) (N := some 43) (v := ?_) (a' := ?_) #[true, true, true, true, true, true, true, true, true, true, true, true, true, false, false, false, false, false, false, false, false, false, false] rfl rfl (any_of HT_.out (by kernel_rfl)) (fun _ _ _ h => h) (Or.inl ⟨by rfl, ?_⟩) ?_ ?_
              rotate_left
              · intro w'
                go_simp
                with_reducible rfl
              rotate_left
              · simp only [Act.put, List.setIfInBounds_toArray, List.set_cons_zero, List.set_cons_succ, i64_w, i32_w]
                rfl
              refine pure_ (i := 13) (N := some 44) (v := ?_) (a' := ?_) #[true, true, true, true, true, true, true, true, true, true, true, true, true, true, false, false, false, false, false, false, false, false, false] rfl rfl (any_of HT_.out (by kernel_rfl)) (fun _ _ _ h => h) (Or.inl ⟨by rfl, ?_⟩) ?_ ?_
              rotate_left
              · intro w'
                go_simp
                with_reducible rfl
              rotate_left
              · simp only [Act.put, List.setIfInBounds_toArray, List.set_cons_zero, List.set_cons_succ, i64_w, i32_w]
                rfl
              refine pure_ (i := 19) (N := some 50) (v := ?_) (a' := ?_) #[true, true, true, true, true, true, true, true, true, true, true, true, true, true, false, false, false, false, false, true, false, false, false] rfl rfl (any_of HT_.out (by kernel_rfl)) (fun _ _ _ h => h) (Or.inl ⟨by rfl, ?_⟩) ?_ ?_
              rotate_left
              · intro w'
                go_simp
                with_reducible rfl
              rotate_left
              · simp only [Act.put, List.setIfInBounds_toArray, List.set_cons_zero, List.set_cons_succ, i64_w, i32_w]
                rfl
              refine take_ (i := 14) (N := some 45) (v := ?_) (a' := ?_) #[true, true, true, true, true, true, true, true, true, true, true, true, true, true, true, false, false, false, false, true, false, false, false] rfl rfl (take_ofW HT_.out HW_.out (by kernel_rfl)) (fun _ _ _ h => h) (Or.inl ⟨by rfl, ?_⟩) hHeld ?_ ?_
              rotate_left
              · rintro w' ⟨s0, s1, s2, s3, s4, s5, s6, s7⟩
                go_simp
                with_reducible rfl
              rotate_left
              · simp only [Act.put, List.setIfInBounds_toArray, List.set_cons_zero, List.set_cons_succ, i64_w, i32_w]
                rfl
              refine take_ (i := 16) (N := some 47) (v := ?_) (a' := ?_) #[true, true, true, true, true, true, true, true, true, true, true, true, true, true, true, false, true, false, false, true, false, false, false] rfl rfl (take_ofW HT_.out HW_.out (by kernel_rfl)) (fun _ _ _ h => h) (Or.inl ⟨by rfl, ?_⟩) hHeld ?_ ?_
              rotate_left
              · rintro w' ⟨s0, s1, s2, s3, s4, s5, s6, s7⟩
                go_simp
                with_reducible rfl
              rotate_left
              · simp only [Act.put, List.setIfInBounds_toArray, List.set_cons_zero, List.set_cons_succ, i64_w, i32_w]
                rfl
              refine one_ (i := 15) (N := some 46) #[true, true, true, true, true, true, true, true, true, true, true, true, true, true, true, true, true, false, false, true, false, false, false] rfl rfl (one_of HT_.out (by kernel_rfl)) (by decide) (fun K hK => ?_)
              refine goes_ Try.func27 (by kernel_rfl) rfl #[.agg #[.int .i64 t5001, .int .i64 t5002, .int .i64 t5003, .slice Ao11 t5004.length co11]] (by rfl) rfl rfl (by (try simp only [List.map_toArray, List.map_cons, List.map_nil]); first | done | rfl | (simp only [List.length_drop, List.length_take]; rfl)) ?_
              with_reducible refine (impl_InvertImage.calls t5001 t5002 t5003 _ _ t5004 t5020 t5021 t5022 t5023 _ ?side1 ?side2 A35.out).mono ?_
              (case side1 => repeat (first | exact (Kd.Q_reads' HO_5014003.out).2.2 | (with_reducible refine Kd.C_alloc ?_ _) | (with_reducible refine Kd.C_drewN ?_ _) | (with_reducible refine Kd.C_drew ?_)))
              (case side2 => exact (Kd.Q_reads' HO_5014003.out).2.1)
              rintro e w41 ⟨v5024, rfl, ho0, hb⟩
              refine ⟨_, rfl, ?_⟩
              have n0_ := Aside0.mk (Kd.Q_elder' (by (with_reducible repeat (first | apply Kd.Q_alloc | apply Kd.Q_drewN | apply Kd.Q_drew)); exact HO_5014003.out) (Kd.R_base ho0) hb)
              have n1_ := Aside0.mk (Kd.Q_elder' (by (with_reducible repeat (first | apply Kd.Q_alloc | apply Kd.Q_drewN | apply Kd.Q_drew)); exact HO_5015003.out) (Kd.R_base ho0) hb)
              have n2_ := Aside0.mk (Kd.R_lower (Kd.R_new' (Kd.R_new' ho0 (Kd.Q_lt (by (with_reducible repeat (first | apply Kd.Q_alloc | apply Kd.Q_drewN | apply Kd.Q_drew)); exact HO_5014003.out))) (Kd.Q_lt (by (with_reducible repeat (first | apply Kd.Q_alloc | apply Kd.Q_drewN | apply Kd.Q_drew)); exact HO_5015003.out))) (below_size (by repeat (first | (with_reducible first | exact HB.out | apply below_alloc | apply pw_below_drewN | apply below_drew1 | refine below_set ?_ GE5013.out | refine below_set ?_ GE5014.out) | exact HB.out))))
              have n3_ := Aside0.mk (blk_below (g := gb5013) (o := .cells #[.int .i64 t5001, .int .i64 t5002, .int .i64 t5003, .slice Ao11 t5004.length co11] 27 (0, 0)) (by (with_reducible repeat (first | refine blk_drewN ?_ _ | refine blk_drew ?_ | refine blk_alloc ?_ _)); exact BK5013.out) hb)
              have n4_ := Aside0.mk (blk_below (g := gb5014) (o := .cells #[.int .i64 t5007, .int .i64 t5008, .int .i64 t5009, .slice Ao13 t5010.length co13] 27 (0, 0)) (by (with_reducible repeat (first | refine blk_drewN ?_ _ | refine blk_drew ?_ | refine blk_alloc ?_ _)); exact BK5014.out) hb)
              have n5_ := Aside0.mk (below_step (by repeat (first | (with_reducible first | exact HB.out | apply below_alloc | apply pw_below_drewN | apply below_drew1 | refine below_set ?_ GE5013.out | refine below_set ?_ GE5014.out) | exact HB.out)) hb)
              clear HO_5014003
              clear HO_5015003
              clear BK5013
              clear BK5014
              clear HB
              have HO_5014003 := n0_
              have HO_5015003 := n1_
              have HO5025 := n2_
              have BK5013 := n3_
              have BK5014 := n4_
              have HB := n5_
              clear n0_ n1_ n2_ n3_ n4_ n5_
              (try clear hb)
              (try clear hb2)
              (try clear hk)
              (try clear hi)
              (try clear ho0)
              refine hK.out _ _ ⟨(blk_cell BK5013.out 0).trans rfl, (blk_cell BK5013.out 1).trans rfl, (blk_cell BK5013.out 2).trans rfl, (blk_cell BK5013.out 3).trans rfl, (blk_cell BK5014.out 0).trans rfl, (blk_cell BK5014.out 1).trans rfl, (blk_cell BK5014.out 2).trans rfl, (blk_cell BK5014.out 3).trans rfl⟩ (fun hHeld => ?_)
              clear hK K
              refine norm_ (a' := ?_) ?_ ?_
              rotate_left
              · show Act.put _ (some 46) _ = _
                simp only [Act.put, List.setIfInBounds_toArray, List.set_cons_zero, List.set_cons_succ, i64_w, i32_w]
                rfl
              refine one_ (i := 17) (N := some 48) #[true, true, true, true, true, true, true, true, true, true, true, true, true, true, true, true, true, true, false, true, false, false, false] rfl rfl (one_of HT_.out (by kernel_rfl)) (by decide) (fun K hK => ?_)
              refine goes_ Try.func27 (by kernel_rfl) rfl #[.agg #[.int .i64 t5007, .int .i64 t5008, .int .i64 t5009, .slice Ao13 t5010.length co13]] (by rfl) rfl rfl (by (try simp only [List.map_toArray, List.map_cons, List.map_nil]); first | done | rfl | (simp only [List.length_drop, List.length_take]; rfl)) ?_
              with_reducible refine (impl_InvertImage.calls t5007 t5008 t5009 _ _ t5010 t5026 t5027 t5028 t5029 _ ?side1 ?side2 A36.out).mono ?_
              (case side1 => repeat (first | exact (Kd.Q_reads' HO_5015003.out).2.2 | (with_reducible refine Kd.C_alloc ?_ _) | (with_reducible refine Kd.C_drewN ?_ _) | (with_reducible refine Kd.C_drew ?_)))
              (case side2 => exact (Kd.Q_reads' HO_5015003.out).2.1)
              rintro e w42 ⟨v5030, rfl, ho0, hb⟩
              refine ⟨_, rfl, ?_⟩
              have n0_ := Aside0.mk (Kd.Q_elder' (by (with_reducible repeat (first | apply Kd.Q_alloc | apply Kd.Q_drewN | apply Kd.Q_drew)); exact HO_5014003.out) (Kd.R_base ho0) hb)
              have n1_ := Aside0.mk (Kd.Q_elder' (by (with_reducible repeat (first | apply Kd.Q_alloc | apply Kd.Q_drewN | apply Kd.Q_drew)); exact HO_5015003.out) (Kd.R_base ho0) hb)
              have n2_ := Aside0.mk (Kd.R_elder' (by (with_reducible repeat (first | apply Kd.R_alloc | apply Kd.R_drewN | apply Kd.R_drew)); exact HO5025.out) (Kd.R_base ho0) hb)
              have n3_ := Aside0.mk (Kd.R_lower (Kd.R_new' (Kd.R_new' (Kd.R_new' ho0 (Kd.Q_lt (by (with_reducible repeat (first | apply Kd.Q_alloc | apply Kd.Q_drewN | apply Kd.Q_drew)); exact HO_5014003.out))) (Kd.Q_lt (by (with_reducible repeat (first | apply Kd.Q_alloc | apply Kd.Q_drewN | apply Kd.Q_drew)); exact HO_5015003.out))) (Kd.R_lt (by (with_reducible repeat (first | apply Kd.R_alloc | apply Kd.R_drewN | apply Kd.R_drew)); exact HO5025.out))) (below_size (by repeat (first | (with_reducible first | exact HB.out | apply below_alloc | apply pw_below_drewN | apply below_drew1 | refine below_set ?_ GE5013.out | refine below_set ?_ GE5014.out) | exact HB.out))))
              have n4_ := Aside0.mk (blk_below (g := gb5013) (o := .cells #[.int .i64 t5001, .int .i64 t5002, .int .i64 t5003, .slice Ao11 t5004.length co11] 27 (0, 0)) (by (with_reducible repeat (first | refine blk_drewN ?_ _ | refine blk_drew ?_ | refine blk_alloc ?_ _)); exact BK5013.out) hb)
              have n5_ := Aside0.mk (blk_below (g := gb5014) (o := .cells #[.int .i64 t5007, .int .i64 t5008, .int .i64 t5009, .slice Ao13 t5010.length co13] 27 (0, 0)) (by (with_reducible repeat (first | refine blk_drewN ?_ _ | refine blk_drew ?_ | refine blk_alloc ?_ _)); exact BK5014.out) hb)
              have n6_ := Aside0.mk (below_step (by repeat (first | (with_reducible first | exact HB.out | apply below_alloc | apply pw_below_drewN | apply below_drew1 | refine below_set ?_ GE5013.out | refine below_set ?_ GE5014.out) | exact HB.out)) hb)
              clear HO_5014003
              clear HO_5015003
              clear HO5025
              clear BK5013
              clear BK5014
              clear HB
              have HO_5014003 := n0_
              have HO_5015003 := n1_
              have HO5025 := n2_
              have HO5031 := n3_
              have BK5013 := n4_
              have BK5014 := n5_
              have HB := n6_
              clear n0_ n1_ n2_ n3_ n4_ n5_ n6_
              (try clear hb)
              (try clear hb2)
              (try clear hk)
              (try clear hi)
              (try clear ho0)
              obtain ⟨Ao43, co43, eo43⟩ := Kd.R_slice HO5025.out
              (first | subst eo43 | (injection eo43 with f1_ f2_ f3_; have f4_ := f1_.symm; have f5_ := f3_.symm; clear f1_ f2_ f3_; subst f4_; subst f5_))
              obtain ⟨Ao44, co44, eo44⟩ := Kd.R_slice HO5031.out
              (first | subst eo44 | (injection eo44 with f1_ f2_ f3_; have f4_ := f1_.symm; have f5_ := f3_.symm; clear f1_ f2_ f3_; subst f4_; subst f5_))
              refine hK.out _ _ ⟨(blk_cell BK5013.out 0).trans rfl, (blk_cell BK5013.out 1).trans rfl, (blk_cell BK5013.out 2).trans rfl, (blk_cell BK5013.out 3).trans rfl, (blk_cell BK5014.out 0).trans rfl, (blk_cell BK5014.out 1).trans rfl, (blk_cell BK5014.out 2).trans rfl, (blk_cell BK5014.out 3).trans rfl⟩ (fun hHeld => ?_)
              clear hK K
              refine norm_ (a' := ?_) ?_ ?_
              rotate_left
              · show Act.put _ (some 48) _ = _
                simp only [Act.put, List.setIfInBounds_toArray, List.set_cons_zero, List.set_cons_succ, i64_w, i32_w]
                rfl
              refine one_ (i := 18) (N := some 49) #[true, true, true, true, true, true, true, true, true, true, true, true, true, true, true, true, true, true, true, true, false, false, false] rfl rfl (one_of HT_.out (by kernel_rfl)) (by decide) (fun K hK => ?_)
              refine goes_ Try.func23 (by kernel_rfl) rfl #[.agg #[.int .i64 t5020, .int .i64 t5021, .int .i64 t5022, .slice Ao43 t5023.length co43], .agg #[.int .i64 t5026, .int .i64 t5027, .int .i64 t5028, .slice Ao44 t5029.length co44]] (by rfl) rfl rfl (by (try simp only [List.map_toArray, List.map_cons, List.map_nil]); first | done | rfl | (simp only [List.length_drop, List.length_take]; rfl)) ?_
              with_reducible refine (impl_GapOf.calls kj4 t5020 t5021 t5022 _ _ t5023 t5026 t5027 t5028 _ _ t5029 t5032 _ ?side1 ?side2 ?side3 ?side4 A37.out).mono ?_
              (case side1 => repeat (first | exact (Kd.R_reads' HO5025.out).2.2 | (with_reducible refine Kd.C_alloc ?_ _) | (with_reducible refine Kd.C_drewN ?_ _) | (with_reducible refine Kd.C_drew ?_)))
              (case side2 => exact (Kd.R_reads' HO5025.out).2.1)
              (case side3 => repeat (first | exact (Kd.R_reads' HO5031.out).2.2 | (with_reducible refine Kd.C_alloc ?_ _) | (with_reducible refine Kd.C_drewN ?_ _) | (with_reducible refine Kd.C_drew ?_)))
              (case side4 => exact (Kd.R_reads' HO5031.out).2.1)
              rintro e w45 ⟨rfl, hb⟩
              refine ⟨_, rfl, ?_⟩
              have n0_ := Aside0.mk (Kd.Q_below (by (with_reducible repeat (first | apply Kd.Q_alloc | apply Kd.Q_drewN | apply Kd.Q_drew)); exact HO_5014003.out) hb)
              have n1_ := Aside0.mk (Kd.Q_below (by (with_reducible repeat (first | apply Kd.Q_alloc | apply Kd.Q_drewN | apply Kd.Q_drew)); exact HO_5015003.out) hb)
              have n2_ := Aside0.mk (Kd.R_below (by (with_reducible repeat (first | apply Kd.R_alloc | apply Kd.R_drewN | apply Kd.R_drew)); exact HO5025.out) hb)
              have n3_ := Aside0.mk (Kd.R_below (by (with_reducible repeat (first | apply Kd.R_alloc | apply Kd.R_drewN | apply Kd.R_drew)); exact HO5031.out) hb)
              have n4_ := Aside0.mk (blk_below (g := gb5013) (o := .cells #[.int .i64 t5001, .int .i64 t5002, .int .i64 t5003, .slice Ao11 t5004.length co11] 27 (0, 0)) (by (with_reducible repeat (first | refine blk_drewN ?_ _ | refine blk_drew ?_ | refine blk_alloc ?_ _)); exact BK5013.out) hb)
              have n5_ := Aside0.mk (blk_below (g := gb5014) (o := .cells #[.int .i64 t5007, .int .i64 t5008, .int .i64 t5009, .slice Ao13 t5010.length co13] 27 (0, 0)) (by (with_reducible repeat (first | refine blk_drewN ?_ _ | refine blk_drew ?_ | refine blk_alloc ?_ _)); exact BK5014.out) hb)
              have n6_ := Aside0.mk (below_step (by repeat (first | (with_reducible first | exact HB.out | apply below_alloc | apply pw_below_drewN | apply below_drew1 | refine below_set ?_ GE5013.out | refine below_set ?_ GE5014.out) | exact HB.out)) hb)
              clear HO_5014003
              clear HO_5015003
              clear HO5025
              clear HO5031
              clear BK5013
              clear BK5014
              clear HB
              have HO_5014003 := n0_
              have HO_5015003 := n1_
              have HO5025 := n2_
              have HO5031 := n3_
              have BK5013 := n4_
              have BK5014 := n5_
              have HB := n6_
              clear n0_ n1_ n2_ n3_ n4_ n5_ n6_
              (try clear hb)
              (try clear hb2)
              (try clear hk)
              (try clear hi)
              refine hK.out _ _ ⟨(blk_cell BK5013.out 0).trans rfl, (blk_cell BK5013.out 1).trans rfl, (blk_cell BK5013.out 2).trans rfl, (blk_cell BK5013.out 3).trans rfl, (blk_cell BK5014.out 0).trans rfl, (blk_cell BK5014.out 1).trans rfl, (blk_cell BK5014.out 2).trans rfl, (blk_cell BK5014.out 3).trans rfl⟩ (fun hHeld => ?_)
              clear hK K
              refine norm_ (a' := ?_) ?_ ?_
              rotate_left
              · show Act.put _ (some 49) _ = _
                simp only [Act.put, List.setIfInBounds_toArray, List.set_cons_zero, List.set_cons_succ, i64_w, i32_w]
                rfl
              refine pure_ (i := 20) (N := some 51) (v := ?_) (a' := ?_) #[true, true, true, true, true, true, true, true, true, true, true, true, true, true, true, true, true, true, true, true, true, false, false] rfl rfl (any_of HT_.out (by kernel_rfl)) (fun _ _ _ h => h) (Or.inl ⟨by rfl, ?_⟩) ?_ ?_
              rotate_left
              · intro w'
                go_simp
                with_reducible rfl
              rotate_left
              · simp only [Act.put, List.setIfInBounds_toArray, List.set_cons_zero, List.set_cons_succ, i64_w, i32_w]
                rfl
              refine pure_ (i := 21) (N := some 52) (v := ?_) (a' := ?_) #[true, true, true, true, true, true, true, true, true, true, true, true, true, true, true, true, true, true, true, true, true, true, false] rfl rfl (any_of HT_.out (by kernel_rfl)) (fun _ _ _ h => h) (Or.inl ⟨by rfl, ?_⟩) ?_ ?_
              rotate_left
              · intro w'
                go_simp
                with_reducible rfl
              rotate_left
              · simp only [Act.put, List.setIfInBounds_toArray, List.set_cons_zero, List.set_cons_succ, i64_w, i32_w]
                rfl
              refine pure_ (i := 22) (N := some 2) (v := ?_) (a' := ?_) #[true, true, true, true, true, true, true, true, true, true, true, true, true, true, true, true, true, true, true, true, true, true, true] rfl rfl (any_of HT_.out (by kernel_rfl)) (fun _ _ _ h => h) (Or.inl ⟨by rfl, ?_⟩) ?_ ?_
              rotate_left
              · intro w'
                go_simp
                with_reducible rfl
              rotate_left
              · simp only [Act.put, List.setIfInBounds_toArray, List.set_cons_zero, List.set_cons_succ, i64_w, i32_w]
                rfl
              refine done_ (done_of HT_.out (by kernel_rfl)) ?_
              try go_wp2
              go_ret
              exact ⟨by first | rfl | (simp [errW_none, errW_some] <;> rfl) | (simp [*, errW_none, errW_some] <;> rfl), by repeat (first | (with_reducible first | exact HB.out | apply below_alloc | apply pw_below_drewN | apply below_drew1 | refine below_set ?_ GE5013.out | refine below_set ?_ GE5014.out) | exact HB.out)⟩
            · rw [if_neg c34] at H
              have c34b0 : (t5019 == t5015) = false := beq_eq_false_iff_ne.mpr c34
              have c34b1 : (t5019 != t5015) = true := bne_iff_ne.mpr c34
              exact absurd ((Option.some.inj H).trans HRT.out) (by decide)
          · rw [if_neg c32] at H
            have c32b0 : ((t5015 == 0) == t5018) = false := by simpa using c32
            (try (have c32b1 : decide ((t5015 == 0) = t5018) = false := by simpa using c32))
            (try (have c32b2 : ((t5015 == 0) == t5018) = false := by simpa using c32))
            (try (have c32b3 : ¬ ((t5015 == 0) = t5018) := by simpa using c32))
            clear c32
            exact absurd ((Option.some.inj H).trans HRT.out) (by decide)

/-- THE ONE PURE STATEMENT of laws_FnGapOf: yours. -/
def laws_FnGapOf.Pure : Prop := ∀ (l0 : List Int), l0.length ≤ maxLen → l0.length * 1 ≤ 140737488351232 → (∀ x ∈ l0, (Lit.int .u8 x).wf = true) → ∃ k, laws_FnGapOf.f k l0 = some true
theorem laws_FnGapOf.walk (P : laws_FnGapOf.Pure) (a0 : Option Addr) (len0 cap0 : Nat) (z0 : List Int) (w : World) (w0 : (a0 = none ∧ len0 = 0 ∧ cap0 = 0 ∧ z0 = []) ∨ ∃ x, a0 = some x ∧ len0 ≤ cap0 ∧ cap0 ≤ maxLen ∧ z0.length = cap0 ∧ (∀ i, i < z0.length → w.cell? (x.add i) = some (.int .u8 (z0.getD i 0))) ∧ ∀ n ∈ z0, (Lit.int .u8 n).wf = true) (y0 : len0 * 1 ≤ 140737488351232) :
    Calls Try.prog 4 #[.slice a0 len0 cap0] w fun e w' => e = .returned (.bool true) ∧ Below w.heap.size w w' := by
  obtain ⟨l0, rfl, hr0, hm0, hw0, hc0⟩ := ReadsInt.ofRowC w0
  obtain ⟨k, h⟩ := P l0 hm0 y0 hw0
  refine (laws_FnGapOf.calls k _ _ l0 true w (Kd.C_of_reads (d := (0 : Int)) (h1 := fun _ => rfl) hr0) hc0 h rfl).mono ?_
  rintro e w' ⟨rfl, hd⟩
  exact ⟨rfl, hd⟩

end Go.Proofs.Ytnofkbbcbpjhfaa.Q

/- Two images of the same shape. -/
namespace Go.Proofs.Ytnofkbbcbpjhfaa.Pure
open Go.RowKit Go.Proofs.Ytnofkbbcbpjhfaa.Q Go.Proofs.YtnofkbbcbpjhfaaW.PrintWords Go.Proofs.YtnofkbbcbpjhfaaW.PrintLast Go.Proofs.YtnofkbbcbpjhfaaW.PrintMore
set_option linter.unusedVariables false
set_option linter.unusedSimpArgs false

def sameV (w h p : Int) (d : List Int) (w' h' p' : Int) (d' : List Int) : Bool := validI w h p d && (validI w' h' p' d' && decide (w = w' ∧ h = h' ∧ p = p'))
theorem sameV_iff (w h p : Int) (d : List Int) (w' h' p' : Int) (d' : List Int) : sameV w h p d w' h' p' d' = true ↔ validI w h p d = true ∧ validI w' h' p' d' = true ∧ w = w' ∧ h = h' ∧ p = p' := by
  simp [sameV]
theorem same_len {w h p : Int} {d : List Int} {w' h' p' : Int} {d' : List Int} (hs : sameV w h p d w' h' p' d' = true) : d.length = d'.length ∧ d.length ≤ 1024 := by
  obtain ⟨h1, h2, rfl, rfl, rfl⟩ := (sameV_iff _ _ _ _ _ _ _ _).1 hs
  have a := (validI_iff _ _ _ _).1 h1
  have b := (validI_iff _ _ _ _).1 h2
  have := shape_prod a.1
  omega
theorem alikeB (w h p w' h' p' : Int) : (if w = w' then (if h = h' then (some (p == p')) else (some false)) else (some false)) = some (decide (w = w' ∧ h = h' ∧ p = p')) := by
  by_cases c1 : w = w'
  · rw [if_pos c1]
    by_cases c2 : h = h'
    · rw [if_pos c2]
      by_cases c3 : p = p'
      · rw [decide_eq_true (show w = w' ∧ h = h' ∧ p = p' from ⟨c1, c2, c3⟩), beq_iff_eq.2 c3]
      · rw [decide_eq_false (by simp [c3]), beq_eq_false_iff_ne.2 c3]
    · rw [if_neg c2, decide_eq_false (by simp [c2])]
  · rw [if_neg c1, decide_eq_false (by simp [c1])]
theorem impl_alike_eq (w h p : Int) (d : List Int) (w' h' p' : Int) (d' : List Int) : impl_alikeImages.f w h p d w' h' p' d' = some (decide (w = w' ∧ h = h' ∧ p = p')) := by
  unfold impl_alikeImages.f
  exact alikeB w h p w' h' p'
theorem spec_sameShape_ev (w h p : Int) (d : List Int) (w' h' p' : Int) (d' : List Int) (hl : d.length ≤ 1000000000000) (hl' : d'.length ≤ 1000000000000) : Ev (fun k => spec_sameShape.f k w h p d w' h' p' d') (sameV w h p d w' h' p' d') := by
  unfold spec_sameShape.f sameV
  refine ev_bind (spec_validImage_ev w h p d hl) ?_
  by_cases c : validI w h p d = true
  · rw [c, Bool.true_and]
    refine ev_pos rfl (ev_bind (spec_validImage_ev w' h' p' d' hl') ?_)
    by_cases c' : validI w' h' p' d' = true
    · rw [c', Bool.true_and]
      exact ev_pos rfl (ev_const (alikeB w h p w' h' p'))
    · rw [Bool.eq_false_iff.2 c', Bool.false_and]
      exact ev_neg (by simp) (Ev.now _)
  · rw [Bool.eq_false_iff.2 c, Bool.false_and]
    exact ev_neg (by simp) (Ev.now _)

/- GapOf, as the program and the reference have it. -/

def gapTo (a b : List Int) : Nat → Int
  | 0 => 0
  | i + 1 => wrap64 (gapTo a b i + wrap64 (wrap64 (rd a i - rd b i) * wrap64 (rd a i - rd b i)))
def gapV (w h p : Int) (d : List Int) (w' h' p' : Int) (d' : List Int) : Int := if sameV w h p d w' h' p' d' = true then gapTo d d' d.length else -1
theorem spec_GapOf_ev (w h p : Int) (d : List Int) (w' h' p' : Int) (d' : List Int) (hl : d.length ≤ 1000000000000) (hl' : d'.length ≤ 1000000000000) : Ev (fun k => spec_GapOf.f k w h p d w' h' p' d') (gapV w h p d w' h' p' d') := by
  unfold spec_GapOf.f gapV
  refine ev_bind (spec_sameShape_ev w h p d w' h' p' d' hl hl') ?_
  by_cases c : sameV w h p d w' h' p' d' = true
  · rw [if_pos c]
    refine ev_pos c (ev_bind ?_ (Ev.now _))
    have hn := same_len c
    have key := ev_up d.length (fun k i (s : Int) => spec_gap.l0 k d d' s (i : Int)) (fun i s => s = gapTo d d' i) (fun _ _ => gapTo d d' d.length)
      (by
        intro i s hi hs
        right
        refine ⟨gapTo d d' (i + 1), fun k => ?_, rfl, rfl⟩
        simp only [spec_gap.l0]
        rw [if_pos (by omega), if_pos (by omega), if_pos (by omega), w64n i (by omega), hs]
        rfl)
      (by
        intro s hs
        refine Ev.step (f := fun _ => some s) (fun k => ?_) (ev_const (by rw [hs]))
        simp only [spec_gap.l0]
        rw [if_neg (by omega)])
      d.length 0 0 (by omega) rfl
    unfold spec_gap.f
    exact key
  · rw [if_neg c]
    exact ev_neg c (Ev.now _)
theorem impl_GapOf_ev (w h p : Int) (d : List Int) (w' h' p' : Int) (d' : List Int) (hl : d.length ≤ 1000000000000) : Ev (fun k => impl_GapOf.f k w h p d w' h' p' d') (gapV w h p d w' h' p' d') := by
  have hj : Ev (fun k => impl_GapOf.j0 k (!(sameV w h p d w' h' p' d')) w h p d w' h' p' d') (gapV w h p d w' h' p' d') := by
    unfold gapV
    by_cases c : sameV w h p d w' h' p' d' = true
    · rw [if_pos c]
      have hn := same_len c
      have key := ev_up d.length (fun k i (s : Int) => impl_GapOf.l0 k s d (d.length : Int) (i : Int) w' h' p' d') (fun i s => s = gapTo d d' i) (fun _ _ => gapTo d d' d.length)
        (by
          intro i s hi hs
          right
          refine ⟨gapTo d d' (i + 1), fun k => ?_, rfl, rfl⟩
          simp only [impl_GapOf.l0]
          rw [if_pos (by omega), if_pos (by omega), if_pos (by omega), if_pos (by omega), w64n i (by omega), hs]
          rfl)
        (by
          intro s hs
          refine Ev.step (f := fun _ => some s) (fun k => ?_) (ev_const (by rw [hs]))
          simp only [impl_GapOf.l0]
          rw [if_neg (by omega)])
        d.length 0 0 (by omega) rfl
      refine Ev.step (fun k => ?_) key
      simp only [impl_GapOf.j0]
      rw [if_neg (by rw [c]; simp)]
      rfl
    · rw [if_neg c]
      refine Ev.step (f := fun _ => some (-1)) (fun k => ?_) (Ev.now _)
      simp only [impl_GapOf.j0]
      rw [if_pos (by rw [Bool.eq_false_iff.2 c]; rfl)]
  unfold impl_GapOf.f
  refine ev_now (impl_isImage_eq w h p d) ?_
  by_cases c : validI w h p d = true
  · refine ev_pos c (ev_now (impl_isImage_eq w' h' p' d') ?_)
    by_cases c' : validI w' h' p' d' = true
    · refine ev_pos c' (ev_now (impl_alike_eq w h p d w' h' p' d') ?_)
      have e : sameV w h p d w' h' p' d' = decide (w = w' ∧ h = h' ∧ p = p') := by unfold sameV; rw [c, c', Bool.true_and, Bool.true_and]
      rw [e] at hj
      exact hj
    · refine ev_neg c' ?_
      have e : sameV w h p d w' h' p' d' = false := by unfold sameV; rw [Bool.eq_false_iff.2 c', Bool.false_and, Bool.and_false]
      rw [e] at hj
      exact hj
  · refine ev_neg c ?_
    have e : sameV w h p d w' h' p' d' = false := by unfold sameV; rw [Bool.eq_false_iff.2 c, Bool.false_and]
    rw [e] at hj
    exact hj

/- The reader of draws: whatever the code's bytes are, it answers, in range. -/

/-- What a reader reads from: at most 2000 bytes. -/
def Bytes (b : List Int) : Prop := b.length ≤ 2000 ∧ ∀ x ∈ b, 0 ≤ x ∧ x ≤ 255
theorem Bytes.rd_ {b : List Int} (h : Bytes b) (i : Int) : 0 ≤ rd b i ∧ rd b i ≤ 255 := by
  unfold rd
  by_cases c : i.toNat < b.length
  · rw [List.getD_eq_getElem?_getD, List.getElem?_eq_getElem c]; exact h.2 _ (List.getElem_mem c)
  · rw [List.getD_eq_getElem?_getD, List.getElem?_eq_none (by omega)]; simp
theorem xor_nn (a b : Int) (ha : 0 ≤ a) (ha' : a < 4611686018427387904) (hb : 0 ≤ b) (hb' : b < 4611686018427387904) : 0 ≤ Go.bits .xor .i64 a b := by
  obtain ⟨a, rfl⟩ := Int.eq_ofNat_of_zero_le ha
  obtain ⟨b, rfl⟩ := Int.eq_ofNat_of_zero_le hb
  have ha2 : a < 2 ^ 62 := by have : (2 : Nat) ^ 62 = 4611686018427387904 := by decide +kernel
                              omega
  have hb2 : b < 2 ^ 62 := by have : (2 : Nat) ^ 62 = 4611686018427387904 := by decide +kernel
                              omega
  have e64 : IntKind.bits .i64 = 64 := rfl
  have hx := Nat.xor_lt_two_pow ha2 hb2
  have h62 : (2 : Nat) ^ 62 = 4611686018427387904 := by decide +kernel
  have h64 : (2 : Nat) ^ 64 = 18446744073709551616 := by decide +kernel
  simp only [Go.bits, BitVec.ofInt_natCast, BitVec.toNat_xor, BitVec.toNat_ofNat, e64]
  rw [Nat.mod_eq_of_lt (by omega), Nat.mod_eq_of_lt (by omega), IntKind.wrap_i64]
  generalize a ^^^ b = z at *
  omega
theorem tmod_range (x n : Int) (hx : 0 ≤ x) (hn : 1 ≤ n) : 0 ≤ Int.tmod x n ∧ Int.tmod x n < n := by
  rw [tmod_nn _ _ hx]
  exact ⟨Int.emod_nonneg _ (by omega), Int.emod_lt_of_pos _ (by omega)⟩
theorem pick_at (b : List Int) (p n : Int) (hb : Bytes b) (hp0 : 0 ≤ p) (hp : p ≤ 1000000000000) :
    ∃ v, (∀ k, 0 < k → spec_reader_pick.f k b p n = some (v, p + 1)) ∧ 0 ≤ v ∧ (1 ≤ n → v < n) ∧ (n < 1 → v = 0) := by
  by_cases hn : n < 1
  · refine ⟨0, fun k hk => ?_, by omega, by omega, fun _ => rfl⟩
    obtain ⟨k, rfl⟩ : ∃ m, k = m + 1 := ⟨k - 1, by omega⟩
    unfold spec_reader_pick.f
    rw [if_pos hn, w64 (by omega) (by omega)]
    simp only [spec_reader_pick.j0, if_true]
  by_cases he : b.length = 0
  · refine ⟨0, fun k hk => ?_, by omega, by omega, fun _ => rfl⟩
    obtain ⟨k, rfl⟩ : ∃ m, k = m + 1 := ⟨k - 1, by omega⟩
    unfold spec_reader_pick.f
    rw [if_neg hn, w64 (by omega) (by omega)]
    simp only [spec_reader_pick.j0, he]; simp
  have hlen := hb.1
  by_cases hlt : p < (b.length : Int)
  · have hr := hb.rd_ p
    have ht := tmod_range (rd b p) n hr.1 (by omega)
    refine ⟨Int.tmod (rd b p) n, fun k hk => ?_, ht.1, fun _ => ht.2, by omega⟩
    obtain ⟨k, rfl⟩ : ∃ m, k = m + 1 := ⟨k - 1, by omega⟩
    unfold spec_reader_pick.f
    rw [if_neg hn, w64 (x := p + 1) (by omega) (by omega)]
    simp only [spec_reader_pick.j0]
    rw [if_neg (by simp only [beq_iff_eq]; omega), w64 (x := p + 1 - 1) (by omega) (by omega), show p + 1 - 1 = p by omega, if_pos hlt, if_pos hp0, if_neg (by omega), w64 (x := rd b p) (by omega) (by omega)]
  · have h1 := tmod_range p (b.length : Int) hp0 (by omega)
    have h2 := tmod_range (p * 7 + 3) (b.length : Int) (by omega) (by omega)
    have r1 := hb.rd_ (Int.tmod p (b.length : Int))
    have r2 := hb.rd_ (Int.tmod (p * 7 + 3) (b.length : Int))
    have hd : 0 ≤ Int.tdiv p (b.length : Int) ∧ Int.tdiv p (b.length : Int) ≤ p := by
      rw [tdiv_nn _ _ hp0]
      exact ⟨Int.ediv_nonneg hp0 (by omega), Int.ediv_le_self _ hp0⟩
    generalize h1e : Int.tmod p (b.length : Int) = t1 at *
    generalize h2e : Int.tmod (p * 7 + 3) (b.length : Int) = t2 at *
    generalize hde : Int.tdiv p (b.length : Int) = d at *
    generalize hr1e : rd b t1 = x1 at *
    generalize hr2e : rd b t2 = x2 at *
    have hx := xor_nn (x1 * 131 + x2 * 1117 + p * 29 + d * 53) ((x1 * 131 + x2 * 1117 + p * 29 + d * 53) / 64) (by omega) (by omega) (by omega) (by omega)
    have ht := tmod_range _ n hx (by omega)
    refine ⟨Int.tmod (Go.bits .xor .i64 (x1 * 131 + x2 * 1117 + p * 29 + d * 53) ((x1 * 131 + x2 * 1117 + p * 29 + d * 53) / 64)) n, fun k hk => ?_, ht.1, fun _ => ht.2, by omega⟩
    obtain ⟨k, rfl⟩ : ∃ m, k = m + 1 := ⟨k - 1, by omega⟩
    unfold spec_reader_pick.f
    rw [if_neg hn, w64 (x := p + 1) (by omega) (by omega)]
    simp only [spec_reader_pick.j0]
    rw [if_neg (by simp only [beq_iff_eq]; omega), w64 (x := p + 1 - 1) (by omega) (by omega), show p + 1 - 1 = p by omega, if_neg hlt, if_neg (by omega),
      w64 (x := p * 7) (by omega) (by omega), w64 (x := p * 7 + 3) (by omega) (by omega), h1e, h2e, hde, hr1e, hr2e, if_pos (by omega), if_pos (by omega), if_pos (by omega), if_pos (by omega), if_neg (by omega),
      w64 (x := x1) (by omega) (by omega), w64 (x := x2) (by omega) (by omega), w64 (x := d) (by omega) (by omega), w64 (x := x1 * 131) (by omega) (by omega), w64 (x := x2 * 1117) (by omega) (by omega), w64 (x := p * 29) (by omega) (by omega), w64 (x := d * 53) (by omega) (by omega),
      w64 (x := x1 * 131 + x2 * 1117) (by omega) (by omega), w64 (x := x1 * 131 + x2 * 1117 + p * 29) (by omega) (by omega), w64 (x := x1 * 131 + x2 * 1117 + p * 29 + d * 53) (by omega) (by omega), tdiv_nn _ 64 (by omega),
      w64 (x := (x1 * 131 + x2 * 1117 + p * 29 + d * 53) / 64) (by omega) (by omega)]
theorem one_at (b : List Int) (p : Int) (l : List Int) (hl : 0 < l.length) (hl' : l.length ≤ 1000) (hb : Bytes b) (hp0 : 0 ≤ p) (hp : p ≤ 1000000000000) :
    ∃ v, (∀ k, 0 < k → spec_reader_one.f k b p l = some (v, p + 1)) ∧ v ∈ l := by
  obtain ⟨v, hv, h0, h1, _⟩ := pick_at b p (l.length : Int) hb hp0 hp
  have h1' := h1 (by omega)
  obtain ⟨v, rfl⟩ := Int.eq_ofNat_of_zero_le h0
  refine ⟨l[v]'(by omega), fun k hk => ?_, List.getElem_mem _⟩
  unfold spec_reader_one.f
  rw [hv k hk]
  simp only [Option.bind_some]
  rw [if_pos (by omega), if_pos (by omega), rd_nat l v (by omega)]
theorem newReader_at (l : List Int) (h : ∀ x ∈ l, 0 ≤ x ∧ x ≤ 255) : ∃ b, spec_newReader.f l = some (b, 0) ∧ Bytes b := by
  unfold spec_newReader.f
  by_cases c : (l.length : Int) > 2000
  · rw [if_pos c, if_pos (by omega)]
    exact ⟨_, rfl, by rw [List.length_take]; omega, fun x hx => h x (List.mem_of_mem_take hx)⟩
  · rw [if_neg c]
    exact ⟨_, rfl, by omega, h⟩
/-- What a law is told of its code: bytes. -/
theorem code_bytes (l : List Int) (h : ∀ x ∈ l, (Lit.int .u8 x).wf = true) : ∀ x ∈ l, 0 ≤ x ∧ x ≤ 255 := by
  intro x hx
  have := h x hx
  simp only [Lit.wf, Bool.and_eq_true, decide_eq_true_eq] at this
  have e1 : IntKind.min .u8 = 0 := by decide
  have e2 : IntKind.max .u8 = 255 := by decide
  omega

/- Images that are drawn from bytes. -/

theorem one_in (b : List Int) (p : Int) (l : List Int) (hl : 0 < l.length) (hl' : l.length ≤ 1000) (hb : Bytes b) (hp0 : 0 ≤ p) (hp : p ≤ 1000000000000) : ∃ v, Ev (fun k => spec_reader_one.f k b p l) (v, p + 1) ∧ v ∈ l := by
  obtain ⟨v, h, hv⟩ := one_at b p l hl hl' hb hp0 hp
  exact ⟨v, ev_of 0 h, hv⟩
theorem pick_in (b : List Int) (p n : Int) (hn : 1 ≤ n) (hb : Bytes b) (hp0 : 0 ≤ p) (hp : p ≤ 1000000000000) : ∃ v, Ev (fun k => spec_reader_pick.f k b p n) (v, p + 1) ∧ 0 ≤ v ∧ v < n := by
  obtain ⟨v, h, h0, h1, _⟩ := pick_at b p n hb hp0 hp
  exact ⟨v, ev_of 0 h, h0, h1 hn⟩
theorem newImage_eq (w h p : Int) (hs : 1 ≤ w ∧ w ≤ 16 ∧ 1 ≤ h ∧ h ≤ 16 ∧ 1 ≤ p ∧ p ≤ 4) : spec_newImage.f w h p = some (w, h, p, List.replicate (w * h * p).toNat 0) := by
  have := shape_prod hs
  unfold spec_newImage.f
  rw [shape_wrap hs, if_pos (by omega), if_pos (by omega)]
theorem randomLoop (b : List Int) (hb : Bytes b) (m : Int) (w h p : Int) : ∀ (n i : Nat) (x pos : Int) (d : List Int), i + n = d.length → 0 ≤ pos → pos + n ≤ 1000000000000 → d.length ≤ 1000000 →
    ∃ (d' : List Int) (q : Int), d'.length = d.length ∧ pos ≤ q ∧ q ≤ pos + n ∧ Ev (fun k => spec_randomImage.l0 k m x (i : Int) b pos w h p d) (w, h, p, d', q) := by
  intro n
  induction n with
  | zero =>
    intro i x pos d hi h0 h1 h2
    refine ⟨d, pos, rfl, by omega, by omega, ?_⟩
    refine Ev.step (f := fun _ => some (w, h, p, d, pos)) (fun k => ?_) (Ev.now _)
    simp only [spec_randomImage.l0]
    rw [if_neg (by omega)]
  | succ n ih =>
    intro i x pos d hi h0 h1 h2
    have go : ∀ (v x' pos' : Int), pos ≤ pos' → pos' ≤ pos + 1 → ∃ (d' : List Int) (q : Int), d'.length = d.length ∧ pos ≤ q ∧ q ≤ pos + ((n + 1 : Nat) : Int) ∧ Ev (fun k => spec_randomImage.l0 k m x' ((i + 1 : Nat) : Int) b pos' w h p (d.set i v)) (w, h, p, d', q) := by
      intro v x' pos' a1 a2
      obtain ⟨d', q, e1, e2, e3, e4⟩ := ih (i + 1) x' pos' (d.set i v) (by rw [List.length_set]; omega) (by omega) (by omega) (by rw [List.length_set]; omega)
      exact ⟨d', q, by rw [e1, List.length_set], by omega, by omega, e4⟩
    by_cases c0 : m = 0
    · obtain ⟨v, hv, _, _⟩ := pick_in b pos 256 (by omega) hb h0 (by omega)
      obtain ⟨d', q, e1, e2, e3, e4⟩ := go v v (pos + 1) (by omega) (by omega)
      refine ⟨d', q, e1, e2, e3, ?_⟩
      refine Ev.step (f := fun k => (spec_reader_pick.f k b pos 256).bind fun bt => if 0 ≤ (i : Int) then spec_randomImage.l0 k m bt.1 (wrap64 ((i : Int) + 1)) b bt.2 w h p (d.set (i : Int).toNat bt.1) else none) (fun k => ?_) ?_
      · simp only [spec_randomImage.l0]
        rw [if_pos (by omega), if_pos c0]
      · refine ev_bind hv (ev_pos (by omega) ?_)
        simp only [Int.toNat_natCast, w64n i (by omega)]
        exact e4
    · by_cases c1 : m = 1
      · obtain ⟨v, hv, _, _⟩ := pick_in b pos 5 (by omega) hb h0 (by omega)
        obtain ⟨d', q, e1, e2, e3, e4⟩ := go (Int.tmod (wrap64 ((wrap64 (x + v)) + 254)) 256) (Int.tmod (wrap64 ((wrap64 (x + v)) + 254)) 256) (pos + 1) (by omega) (by omega)
        refine ⟨d', q, e1, e2, e3, ?_⟩
        refine Ev.step (f := fun k => (spec_reader_pick.f k b pos 5).bind fun bt => if 0 ≤ (i : Int) then spec_randomImage.l0 k m (Int.tmod (wrap64 ((wrap64 (x + bt.1)) + 254)) 256) (wrap64 ((i : Int) + 1)) b bt.2 w h p (d.set (i : Int).toNat (Int.tmod (wrap64 ((wrap64 (x + bt.1)) + 254)) 256)) else none) (fun k => ?_) ?_
        · simp only [spec_randomImage.l0]
          rw [if_pos (by omega), if_neg c0, if_pos c1]
        · refine ev_bind hv (ev_pos (by omega) ?_)
          simp only [Int.toNat_natCast, w64n i (by omega)]
          exact e4
      · by_cases c2 : m = 2
        · obtain ⟨v, hv, _, _⟩ := pick_in b pos 4 (by omega) hb h0 (by omega)
          obtain ⟨d', q, e1, e2, e3, e4⟩ := go (wrap64 (60 * v)) (wrap64 (60 * v)) (pos + 1) (by omega) (by omega)
          refine ⟨d', q, e1, e2, e3, ?_⟩
          refine Ev.step (f := fun k => (spec_reader_pick.f k b pos 4).bind fun bt => if 0 ≤ (i : Int) then spec_randomImage.l0 k m (wrap64 (60 * bt.1)) (wrap64 ((i : Int) + 1)) b bt.2 w h p (d.set (i : Int).toNat (wrap64 (60 * bt.1))) else none) (fun k => ?_) ?_
          · simp only [spec_randomImage.l0]
            rw [if_pos (by omega), if_neg c0, if_neg c1, if_pos c2]
          · refine ev_bind hv (ev_pos (by omega) ?_)
            simp only [Int.toNat_natCast, w64n i (by omega)]
            exact e4
        · obtain ⟨d', q, e1, e2, e3, e4⟩ := go x x pos (by omega) (by omega)
          refine ⟨d', q, e1, e2, e3, Ev.step (fun k => ?_) e4⟩
          simp only [spec_randomImage.l0]
          rw [if_pos (by omega), if_neg c0, if_neg c1, if_neg c2, if_pos (by omega), Int.toNat_natCast, w64n i (by omega)]
theorem randomImage_ev (b : List Int) (pos p : Int) (hb : Bytes b) (h0 : 0 ≤ pos) (h1 : pos ≤ 100000000) (hp : 1 ≤ p ∧ p ≤ 4) :
    ∃ (w h : Int) (d : List Int) (q : Int), 1 ≤ w ∧ w ≤ 8 ∧ 1 ≤ h ∧ h ≤ 8 ∧ (d.length : Int) = w * h * p ∧ 1 ≤ d.length ∧ d.length ≤ 1024 ∧ pos ≤ q ∧ q ≤ pos + 2000 ∧ Ev (fun k => spec_randomImage.f k b pos p) (w, h, p, d, q) := by
  obtain ⟨w, hw, mw⟩ := one_in b pos [3, 4, 2, 5, 1, 8, 6] (by simp) (by simp) hb h0 (by omega)
  obtain ⟨h, hh, mh⟩ := one_in b (pos + 1) [3, 2, 4, 1, 5, 8] (by simp) (by simp) hb (by omega) (by omega)
  obtain ⟨m, hm, _, _⟩ := pick_in b (pos + 1 + 1) 4 (by omega) hb (by omega) (by omega)
  obtain ⟨x, hx, _, _⟩ := pick_in b (pos + 1 + 1 + 1) 256 (by omega) hb (by omega) (by omega)
  have bw : 1 ≤ w ∧ w ≤ 8 := by simp only [List.mem_cons, List.not_mem_nil, or_false] at mw; omega
  have bh : 1 ≤ h ∧ h ≤ 8 := by simp only [List.mem_cons, List.not_mem_nil, or_false] at mh; omega
  have hs : 1 ≤ w ∧ w ≤ 16 ∧ 1 ≤ h ∧ h ≤ 16 ∧ 1 ≤ p ∧ p ≤ 4 := by omega
  have hpr := shape_prod hs
  have hpos : 1 ≤ w * h * p := by
    have e1 : 1 * 1 ≤ w * h := Int.mul_le_mul (by omega) (by omega) (by omega) (by omega)
    have e2 : 1 * 1 ≤ w * h * p := Int.mul_le_mul (by omega) (by omega) (by omega) (by omega)
    omega
  have hlen : (List.replicate (w * h * p).toNat (0 : Int)).length = (w * h * p).toNat := List.length_replicate
  obtain ⟨d', q, e1, e2, e3, e4⟩ := randomLoop b hb m w h p (w * h * p).toNat 0 x (pos + 1 + 1 + 1 + 1) (List.replicate (w * h * p).toNat 0) (by omega) (by omega) (by omega) (by omega)
  refine ⟨w, h, d', q, bw.1, bw.2, bh.1, bh.2, by omega, by omega, by omega, by omega, by omega, ?_⟩
  unfold spec_randomImage.f
  exact ev_bind hw (ev_bind hh (ev_now (newImage_eq w h p hs) (ev_bind hm (ev_bind hx e4))))
theorem anyPlanes_ev (b : List Int) (pos : Int) (hb : Bytes b) (h0 : 0 ≤ pos) (h1 : pos ≤ 100000000) : ∃ p, 1 ≤ p ∧ p ≤ 4 ∧ Ev (fun k => spec_anyPlanes.f k b pos) (p, pos + 1) := by
  obtain ⟨p, hp, mp⟩ := one_in b pos [1, 3, 1, 4, 2] (by simp) (by simp) hb h0 (by omega)
  simp only [List.mem_cons, List.not_mem_nil, or_false] at mp
  refine ⟨p, by omega, by omega, ?_⟩
  unfold spec_anyPlanes.f
  exact ev_bind hp (Ev.now _)
theorem spoilImage_ev (b : List Int) (pos : Int) (w h p : Int) (d : List Int) (hb : Bytes b) (h0 : 0 ≤ pos) (h1 : pos ≤ 100000000) (hd : 1 ≤ d.length) :
    ∃ (w' h' p' : Int) (d' : List Int) (q : Int), d'.length ≤ d.length ∧ pos ≤ q ∧ q ≤ pos + 2 ∧ Ev (fun k => spec_spoilImage.f k b pos w h p d) (w', h', p', d', q) := by
  obtain ⟨v, hv, _, _⟩ := pick_in b pos 40 (by omega) hb h0 (by omega)
  unfold spec_spoilImage.f
  by_cases c0 : v = 0
  · obtain ⟨x, hx, _⟩ := one_in b (pos + 1) [0, 17, wrap64 (w + 1)] (by simp) (by simp) hb (by omega) (by omega)
    exact ⟨x, h, p, d, pos + 1 + 1, by omega, by omega, by omega, ev_bind hv (ev_pos c0 (ev_bind hx (Ev.now _)))⟩
  · by_cases c1 : v = 1
    · exact ⟨w, h, p, d.drop (1 : Int).toNat, pos + 1, by rw [List.length_drop]; omega, by omega, by omega, ev_bind hv (ev_neg c0 (ev_pos c1 (ev_pos (by omega) (Ev.now _))))⟩
    · by_cases c2 : v = 2
      · obtain ⟨x, hx, _⟩ := one_in b (pos + 1) [(-1), 256] (by simp) (by simp) hb (by omega) (by omega)
        exact ⟨w, h, p, d.set (0 : Int).toNat x, pos + 1 + 1, by rw [List.length_set]; omega, by omega, by omega, ev_bind hv (ev_neg c0 (ev_neg c1 (ev_pos c2 (ev_bind hx (ev_pos (by omega) (Ev.now _))))))⟩
      · by_cases c3 : v = 3
        · obtain ⟨x, hx, _⟩ := one_in b (pos + 1) [0, 5] (by simp) (by simp) hb (by omega) (by omega)
          exact ⟨w, h, x, d, pos + 1 + 1, by omega, by omega, by omega, ev_bind hv (ev_neg c0 (ev_neg c1 (ev_neg c2 (ev_pos c3 (ev_bind hx (Ev.now _))))))⟩
        · exact ⟨w, h, p, d, pos + 1, by omega, by omega, by omega, ev_bind hv (ev_neg c0 (ev_neg c1 (ev_neg c2 (ev_neg c3 (Ev.now _)))))⟩
theorem anyImage_ev (b : List Int) (pos : Int) (hb : Bytes b) (h0 : 0 ≤ pos) (h1 : pos ≤ 90000000) :
    ∃ (w h p : Int) (d : List Int) (q : Int), d.length ≤ 1024 ∧ pos ≤ q ∧ q ≤ pos + 3000 ∧ Ev (fun k => spec_anyImage.f k b pos) (w, h, p, d, q) := by
  obtain ⟨p, p1, p2, hp⟩ := anyPlanes_ev b pos hb h0 (by omega)
  obtain ⟨w, h, d, q, _, _, _, _, _, d1, d2, q1, q2, hr⟩ := randomImage_ev b (pos + 1) p hb (by omega) (by omega) ⟨p1, p2⟩
  obtain ⟨w', h', p', d', q', d3, q3, q4, hs⟩ := spoilImage_ev b q w h p d hb (by omega) (by omega) d1
  refine ⟨w', h', p', d', q', by omega, by omega, by omega, ?_⟩
  unfold spec_anyImage.f
  exact ev_bind hp (ev_bind hr (ev_bind hs (Ev.now _)))

/- Two images that are drawn from bytes. -/

theorem copyI_eq (l : List Int) (hl : l.length ≤ 1000000) : spec_copyInts.f l = some l := by
  unfold spec_copyInts.f
  simp only [Option.bind_some]
  rw [if_pos (by simp; omega)]
  simp
theorem twoLoop (b : List Int) (hb : Bytes b) (w h p : Int) (d : List Int) (w' h' p' : Int) : ∀ (m : Nat) (pos : Int) (d' : List Int), 0 ≤ pos → pos + 2 * m ≤ 80000000 → m ≤ 1000 → d'.length ≤ 1024 →
    ∃ (u v s : Int) (e : List Int) (q : Int), e.length ≤ 1024 ∧ pos ≤ q ∧ q ≤ pos + 2 * m + 4000 ∧ Ev (fun k => spec_twoImages.l0 k (m : Int) b pos w h p d w' h' p' d') (w, h, p, d, u, v, s, e, q) := by
  have stop : ∀ (m : Nat) (pos : Int) (d' : List Int), 0 ≤ pos → pos ≤ 80000000 → d'.length ≤ 1024 →
      ∃ (u v s : Int) (e : List Int) (q : Int), e.length ≤ 1024 ∧ pos ≤ q ∧ q ≤ pos + 4000 ∧ Ev (fun k => spec_twoImages.j1 k (m : Int) false b pos w h p d w' h' p' d') (w, h, p, d, u, v, s, e, q) := by
    intro m pos d' h0 h1 hd
    obtain ⟨x, hx, _, _⟩ := pick_in b pos 16 (by omega) hb h0 (by omega)
    by_cases c : x = 0
    · obtain ⟨u, v, s, e, q, he, q1, q2, hq⟩ := anyImage_ev b (pos + 1) hb (by omega) (by omega)
      refine ⟨u, v, s, e, q, he, by omega, by omega, ?_⟩
      refine Ev.step (f := fun k => (spec_reader_pick.f k b pos 16).bind fun bt => if bt.1 = 0 then ((spec_anyImage.f k b bt.2).bind fun z => some (w, h, p, d, z.1, z.2.1, z.2.2.1, z.2.2.2.1, z.2.2.2.2)) else some (w, h, p, d, w', h', p', d', bt.2)) (fun k => ?_) (ev_bind hx (ev_pos c (ev_bind hq (Ev.now _))))
      simp only [spec_twoImages.j1]
      rw [if_neg (by simp)]
    · refine ⟨w', h', p', d', pos + 1, hd, by omega, by omega, ?_⟩
      refine Ev.step (f := fun k => (spec_reader_pick.f k b pos 16).bind fun bt => if bt.1 = 0 then ((spec_anyImage.f k b bt.2).bind fun z => some (w, h, p, d, z.1, z.2.1, z.2.2.1, z.2.2.2.1, z.2.2.2.2)) else some (w, h, p, d, w', h', p', d', bt.2)) (fun k => ?_) (ev_bind hx (ev_neg c (Ev.now _)))
      simp only [spec_twoImages.j1]
      rw [if_neg (by simp)]
  intro m
  induction m with
  | zero =>
    intro pos d' h0 h1 h2 hd
    obtain ⟨u, v, s, e, q, he, q1, q2, hq⟩ := stop 0 pos d' h0 (by omega) hd
    refine ⟨u, v, s, e, q, he, q1, by omega, Ev.step (fun k => ?_) hq⟩
    simp only [spec_twoImages.l0]
    rw [if_neg (by simp)]
  | succ m ih =>
    intro pos d' h0 h1 h2 hd
    by_cases c : (d'.length : Int) > 0
    · obtain ⟨x, hx, x0, x1⟩ := pick_in b pos (d'.length : Int) (by omega) hb h0 (by omega)
      obtain ⟨y, hy, _, _⟩ := pick_in b (pos + 1) 256 (by omega) hb (by omega) (by omega)
      obtain ⟨u, v, s, e, q, he, q1, q2, hq⟩ := ih (pos + 1 + 1) (d'.set x.toNat y) (by omega) (by omega) (by omega) (by rw [List.length_set]; exact hd)
      refine ⟨u, v, s, e, q, he, by omega, by omega, ?_⟩
      have hj : Ev (fun k => spec_twoImages.j1 k ((m + 1 : Nat) : Int) true b pos w h p d w' h' p' d') (w, h, p, d, u, v, s, e, q) := by
        refine Ev.step (f := fun k => (spec_reader_pick.f k b pos (d'.length : Int)).bind fun bt => (spec_reader_pick.f k b bt.2 256).bind fun ct => if 0 ≤ bt.1 then (if bt.1 < (d'.length : Int) then spec_twoImages.l0 k (wrap64 (((m + 1 : Nat) : Int) - 1)) b ct.2 w h p d w' h' p' (d'.set (bt.1 : Int).toNat ct.1) else none) else none) (fun k => ?_) (ev_bind hx (ev_bind hy (ev_pos x0 (ev_pos x1 ?_))))
        · simp only [spec_twoImages.j1]
          rw [if_pos trivial]
        · rw [w64 (x := ((m + 1 : Nat) : Int) - 1) (by omega) (by omega), show ((m + 1 : Nat) : Int) - 1 = (m : Int) by omega]
          exact hq
      refine Ev.step (fun k => ?_) hj
      simp only [spec_twoImages.l0]
      rw [if_pos (by omega), decide_eq_true c]
    · obtain ⟨u, v, s, e, q, he, q1, q2, hq⟩ := stop (m + 1) pos d' h0 (by omega) hd
      refine ⟨u, v, s, e, q, he, q1, by omega, Ev.step (fun k => ?_) hq⟩
      simp only [spec_twoImages.l0]
      rw [if_pos (by omega), decide_eq_false c]
theorem twoImages_ev (b : List Int) (pos : Int) (hb : Bytes b) (h0 : 0 ≤ pos) (h1 : pos ≤ 1000000) :
    ∃ (w h p : Int) (d : List Int) (w' h' p' : Int) (d' : List Int) (q : Int), d.length ≤ 1024 ∧ d'.length ≤ 1024 ∧ pos ≤ q ∧ q ≤ pos + 9000 ∧ Ev (fun k => spec_twoImages.f k b pos) (w, h, p, d, w', h', p', d', q) := by
  obtain ⟨w, h, p, d, q, hd, q1, q2, hi⟩ := anyImage_ev b pos hb h0 (by omega)
  obtain ⟨m, hm, m0, m1⟩ := pick_in b q 6 (by omega) hb (by omega) (by omega)
  obtain ⟨M, rfl⟩ := Int.eq_ofNat_of_zero_le m0
  obtain ⟨u, v, s, e, q', he, q3, q4, hl⟩ := twoLoop b hb w h p d w h p M (q + 1) d (by omega) (by omega) (by omega) hd
  refine ⟨w, h, p, d, u, v, s, e, q', hd, he, by omega, by omega, ?_⟩
  unfold spec_twoImages.f
  exact ev_bind hi (ev_now (copyI_eq d (by omega)) (ev_bind hm hl))

/- Lists of numbers and images, compared one by one. -/

theorem equalIntsC (l m : List Int) (hl : l.length ≤ 1000000) : Ev (fun k => laws_equalInts.f k l m) (decide (l = m)) := by
  unfold laws_equalInts.f
  by_cases hn : l.length = m.length
  · have key := ev_up l.length (fun k i (_ : Unit) => laws_equalInts.l0 k l m (i : Int)) (fun _ _ => True) (fun i _ => decide (l.drop i = m.drop i))
      (by
        intro i s hi _
        have e1 := List.drop_eq_getElem_cons hi
        have e2 := List.drop_eq_getElem_cons (show i < m.length by omega)
        by_cases c : l[i] = m[i]'(by omega)
        · refine .inr ⟨(), fun k => ?_, trivial, ?_⟩
          · simp only [laws_equalInts.l0]
            rw [if_pos (by omega), if_pos (by omega), if_pos (by omega), rd_nat l i hi, rd_nat m i (by omega), if_pos c, w64n i (by omega)]
          · rw [e1, e2, decide_eq_decide, List.cons.injEq]
            exact ⟨fun h => ⟨c, h⟩, fun h => h.2⟩
        · left
          rw [e1, e2, decide_eq_false (by rw [List.cons.injEq]; exact fun h => c h.1)]
          refine Ev.step (f := fun _ => some false) (fun k => ?_) (Ev.now _)
          simp only [laws_equalInts.l0]
          rw [if_pos (by omega), if_pos (by omega), if_pos (by omega), rd_nat l i hi, rd_nat m i (by omega), if_neg c])
      (by
        intro s _
        refine Ev.step (f := fun _ => some true) (fun k => ?_) (ev_const (by rw [List.drop_length, hn, List.drop_length]; rfl))
        simp only [laws_equalInts.l0]
        rw [if_neg (by omega)])
      l.length 0 () (by omega) trivial
    exact ev_pos (by omega) (by simpa using key)
  · refine ev_neg (by omega) ?_
    rw [decide_eq_false (fun h => hn (by rw [h]))]
    exact Ev.now _
theorem equalImage_ev (a b p : Int) (d : List Int) (a' b' p' : Int) (d' : List Int) (hl : d.length ≤ 1000000) : Ev (fun k => laws_equalImage.f k a b p d a' b' p' d') (decide (a = a' ∧ b = b' ∧ p = p' ∧ d = d')) := by
  unfold laws_equalImage.f
  by_cases c1 : a = a'
  · refine ev_pos c1 ?_
    by_cases c2 : b = b'
    · refine ev_pos c2 ?_
      by_cases c3 : p = p'
      · refine ev_pos c3 ?_
        rw [decide_eq_decide.2 (show (a = a' ∧ b = b' ∧ p = p' ∧ d = d') ↔ d = d' from ⟨fun h => h.2.2.2, fun h => ⟨c1, c2, c3, h⟩⟩)]
        exact ev_bind (equalIntsC d d' hl) (Ev.now _)
      · refine ev_neg c3 ?_
        rw [decide_eq_false (fun h => c3 h.2.2.1)]
        exact Ev.now _
    · refine ev_neg c2 ?_
      rw [decide_eq_false (fun h => c2 h.2.1)]
      exact Ev.now _
  · refine ev_neg c1 ?_
    rw [decide_eq_false (fun h => c1 h.1)]
    exact Ev.now _

/- Equal images have no gap: the law FnGapOf over lists of numbers alone. -/

theorem gap_step {x y : Int} (hx : 0 ≤ x ∧ x ≤ 255) (hy : 0 ≤ y ∧ y ≤ 255) : wrap64 (wrap64 (x - y) * wrap64 (x - y)) = (x - y) * (x - y) ∧ 0 ≤ (x - y) * (x - y) ∧ (x - y) * (x - y) ≤ 65025 := by
  rw [w64 (x := x - y) (by omega) (by omega)]
  have key : ∀ z : Int, -255 ≤ z → z ≤ 255 → 0 ≤ z * z ∧ z * z ≤ 65025 := by
    intro z h1 h2
    rcases Int.le_total 0 z with h | h
    · have a1 := Int.mul_nonneg h h
      have a2 : z * z ≤ 255 * 255 := Int.mul_le_mul h2 h2 h (by omega)
      omega
    · have e : z * z = (-z) * (-z) := by rw [Int.neg_mul_neg]
      have a1 := Int.mul_nonneg (a := -z) (b := -z) (by omega) (by omega)
      have a2 : (-z) * (-z) ≤ 255 * 255 := Int.mul_le_mul (by omega) (by omega) (by omega) (by omega)
      omega
  have := key (x - y) (by omega) (by omega)
  exact ⟨w64 (by omega) (by omega), this⟩
theorem gapTo_facts (a b : List Int) (ha : ∀ n ∈ a, 0 ≤ n ∧ n ≤ 255) (hb : ∀ n ∈ b, 0 ≤ n ∧ n ≤ 255) (hl : a.length = b.length) (hm : a.length ≤ 1024) : ∀ i, i ≤ a.length → (0 ≤ gapTo a b i ∧ gapTo a b i ≤ i * 65025) ∧ (gapTo a b i = 0 ↔ ∀ j (h : j < i) (h1 : j < a.length) (h2 : j < b.length), a[j] = b[j])
  | 0, _ => ⟨⟨Int.le_refl _, by simp [gapTo]⟩, by simp [gapTo]⟩
  | i + 1, hi => by
    obtain ⟨⟨h0, h1⟩, hz⟩ := gapTo_facts a b ha hb hl hm i (by omega)
    have hia : i < a.length := by omega
    have hib : i < b.length := by omega
    obtain ⟨s1, s2, s3⟩ := gap_step (ha _ (List.getElem_mem hia)) (hb _ (List.getElem_mem hib))
    have e : gapTo a b (i + 1) = gapTo a b i + (a[i] - b[i]) * (a[i] - b[i]) := by
      show wrap64 (gapTo a b i + wrap64 (wrap64 (rd a i - rd b i) * wrap64 (rd a i - rd b i))) = _
      rw [rd_nat a i hia, rd_nat b i hib, s1, w64 (by omega) (by omega)]
    generalize hq : (a[i] - b[i]) * (a[i] - b[i]) = q at *
    rw [e]
    refine ⟨⟨by omega, by omega⟩, ?_⟩
    constructor
    · intro h j hj h1 h2
      by_cases c : j = i
      · subst c
        have : q = 0 := by omega
        rw [this] at hq
        have := Int.mul_eq_zero.1 hq
        omega
      · exact hz.1 (by omega) j (by omega) h1 h2
    · intro h
      have e1 := hz.2 (fun j hj h1 h2 => h j (by omega) h1 h2)
      have e2 := h i (by omega) hia hib
      rw [e2, Int.sub_self, Int.zero_mul] at hq
      omega
theorem gapTo_congr (a b a' b' : List Int) : ∀ i, (∀ j : Nat, j < i → wrap64 (wrap64 (rd a j - rd b j) * wrap64 (rd a j - rd b j)) = wrap64 (wrap64 (rd a' j - rd b' j) * wrap64 (rd a' j - rd b' j))) → gapTo a b i = gapTo a' b' i
  | 0, _ => rfl
  | i + 1, h => by
    simp only [gapTo]
    rw [gapTo_congr a b a' b' i (fun j hj => h j (by omega)), h i (by omega)]
theorem sq_swap (x y : Int) : (x - y) * (x - y) = (y - x) * (y - x) := by rw [show y - x = -(x - y) by omega, Int.neg_mul_neg]
theorem gapTo_swap (a b : List Int) (ha : ∀ n ∈ a, 0 ≤ n ∧ n ≤ 255) (hb : ∀ n ∈ b, 0 ≤ n ∧ n ≤ 255) (hl : a.length = b.length) : gapTo b a b.length = gapTo a b a.length := by
  rw [← hl]
  refine gapTo_congr b a a b _ (fun j hj => ?_)
  rw [rd_nat a j hj, rd_nat b j (by omega), (gap_step (ha _ (List.getElem_mem hj)) (hb _ (List.getElem_mem _))).1, (gap_step (hb _ (List.getElem_mem _)) (ha _ (List.getElem_mem hj))).1, sq_swap]
theorem invD_get (a : List Int) (j : Nat) (h : j < a.length) (ha : ∀ n ∈ a, 0 ≤ n ∧ n ≤ 255) : rd (invD a) j = 255 - a[j] := by
  have := ha _ (List.getElem_mem h)
  rw [rd_nat (invD a) j (by simpa [invD] using h)]
  simp only [invD, List.getElem_map]
  exact w64 (by omega) (by omega)
theorem gapTo_inv (a b : List Int) (ha : ∀ n ∈ a, 0 ≤ n ∧ n ≤ 255) (hb : ∀ n ∈ b, 0 ≤ n ∧ n ≤ 255) (hl : a.length = b.length) : gapTo (invD a) (invD b) (invD a).length = gapTo a b a.length := by
  have el : (invD a).length = a.length := by simp [invD]
  rw [el]
  refine gapTo_congr (invD a) (invD b) a b _ (fun j hj => ?_)
  have h1 := ha _ (List.getElem_mem hj)
  have h2 := hb _ (List.getElem_mem (show j < b.length by omega))
  rw [rd_nat a j hj, rd_nat b j (by omega), invD_get a j hj ha, invD_get b j (by omega) hb, (gap_step h1 h2).1, (gap_step (x := 255 - a[j]) (y := 255 - b[j]) (by omega) (by omega)).1]
  rw [show (255 - a[j]) - (255 - b[j]) = b[j] - a[j] by omega, sq_swap]
theorem inv_valid {w h p : Int} {d : List Int} (hv : validI w h p d = true) : validI w h p (invD d) = true := by
  obtain ⟨h1, h2, h3⟩ := (validI_iff _ _ _ _).1 hv
  refine (validI_iff _ _ _ _).2 ⟨h1, by simpa [invD] using h2, fun n hn => ?_⟩
  obtain ⟨m, hm, rfl⟩ := List.mem_map.1 hn
  have := h3 m hm
  rw [w64 (by omega) (by omega)]
  omega
theorem FnGapOf : laws_FnGapOf.Pure := by
  intro code hl _ hw
  apply Ev.rounds
  unfold laws_FnGapOf.f
  by_cases c : (code.length : Int) > 1048576
  · exact ev_pos c (Ev.now true)
  · refine ev_neg c ?_
    obtain ⟨b, hb, hB⟩ := newReader_at code (code_bytes code hw)
    obtain ⟨w, h, p, d, w', h', p', d', q, hd, hd', _, _, he⟩ := twoImages_ev b 0 hB (by omega) (by omega)
    have hdraw : Ev (fun k => spec_DrawGapOf.f k code) (w, h, p, d, w', h', p', d') := by
      unfold spec_DrawGapOf.f
      exact ev_now hb (ev_bind he (Ev.now _))
    have hI := impl_GapOf_ev w h p d w' h' p' d' (by omega)
    have hS := spec_GapOf_ev w h p d w' h' p' d' (by omega) (by omega)
    refine ev_bind hdraw (ev_bind hI (ev_bind hS (ev_pos rfl ?_)))
    by_cases cs : sameV w h p d w' h' p' d' = true
    · obtain ⟨v1, v2, rfl, rfl, rfl⟩ := (sameV_iff _ _ _ _ _ _ _ _).1 cs
      obtain ⟨hdl, hdm⟩ := same_len cs
      have b1 := ((validI_iff _ _ _ _).1 v1).2.2
      have b2 := ((validI_iff _ _ _ _).1 v2).2.2
      have hf := gapTo_facts d d' b1 b2 hdl hdm d.length (Nat.le_refl _)
      have eV : gapV w h p d w h p d' = gapTo d d' d.length := by unfold gapV; rw [if_pos cs]
      have cs' : sameV w h p d' w h p d = true := (sameV_iff _ _ _ _ _ _ _ _).2 ⟨v2, v1, rfl, rfl, rfl⟩
      have ci : sameV w h p (invD d) w h p (invD d') = true := (sameV_iff _ _ _ _ _ _ _ _).2 ⟨inv_valid v1, inv_valid v2, rfl, rfl, rfl⟩
      have eV' : gapV w h p d' w h p d = gapTo d d' d.length := by unfold gapV; rw [if_pos cs', gapTo_swap d d' b1 b2 hdl]
      have eI : gapV w h p (invD d) w h p (invD d') = gapTo d d' d.length := by unfold gapV; rw [if_pos ci, gapTo_inv d d' b1 b2 hdl]
      have hI' := impl_GapOf_ev w h p d' w h p d (by omega)
      have hII := impl_GapOf_ev w h p (invD d) w h p (invD d') (by simp [invD]; omega)
      rw [eV'] at hI'
      rw [eI] at hII
      rw [eV, decide_eq_false (show ¬ gapTo d d' d.length < 0 by omega)]
      have hq := equalImage_ev w h p d w h p d' (by omega)
      have i1 : impl_InvertImage.f w h p d = some (w, h, p, invD d) := by unfold impl_InvertImage.f; rw [if_pos v1]
      have i2 : impl_InvertImage.f w h p d' = some (w, h, p, invD d') := by unfold impl_InvertImage.f; rw [if_pos v2]
      have heq : ((gapTo d d' d.length == 0) == decide (w = w ∧ h = h ∧ p = p ∧ d = d')) = true := by
        rw [beq_iff_eq, show (gapTo d d' d.length == 0) = decide (gapTo d d' d.length = 0) from rfl, decide_eq_decide, hf.2]
        constructor
        · intro hh
          exact ⟨rfl, rfl, rfl, List.ext_getElem hdl (fun j h1 h2 => hh j h1 h1 h2)⟩
        · rintro ⟨_, _, _, rfl⟩ j _ _ _
          rfl
      have hJ : Ev (fun k => (laws_equalImage.f k w h p d w h p d').bind fun t18 => if ((gapTo d d' d.length == 0) == t18) = true then ((impl_GapOf.f k w h p d' w h p d).bind fun t19 => if t19 = gapTo d d' d.length then ((impl_InvertImage.f w h p d).bind fun b20 => (impl_InvertImage.f w h p d').bind fun b26 => (impl_GapOf.f k b20.1 b20.2.1 b20.2.2.1 b20.2.2.2 b26.1 b26.2.1 b26.2.2.1 b26.2.2.2).bind fun t32 => some (t32 == gapTo d d' d.length)) else some false) else some false) true :=
        ev_bind hq (ev_pos heq (ev_bind hI' (ev_pos rfl (ev_now i1 (ev_now i2 (ev_bind hII (ev_const (by rw [beq_self_eq_true]))))))))
      refine Ev.step (fun k => ?_) hJ
      simp only [laws_FnGapOf.j0]
      rw [if_neg (by simp)]
    · have eV : gapV w h p d w' h' p' d' = -1 := by unfold gapV; rw [if_neg cs]
      rw [eV] at hS ⊢
      rw [decide_eq_true (show (-1 : Int) < 0 by omega)]
      have hfin : Ev (fun k => (spec_GapOf.f k w h p d w' h' p' d').bind fun t => some ((-1 : Int) == t)) true := ev_bind hS (Ev.now _)
      refine Ev.step (fun k => ?_) hfin
      simp only [laws_FnGapOf.j0]
      rw [if_pos trivial]
end Go.Proofs.Ytnofkbbcbpjhfaa.Pure

/- The head of the translation reads as a plain cut. -/
namespace Go.Proofs.Ytnofkbbcbpjhfaa.Head
set_option maxRecDepth 100000
theorem wordsSigns_word (w r : List Char) (h : w.all (fun c => !(c == Char.ofNat 32)) = true) : wordsSigns (w ++ Char.ofNat 32 :: r) = w :: wordsSigns r := by
  induction w with
  | nil => rfl
  | cons c w ih =>
    simp only [List.all_cons, Bool.and_eq_true, Bool.not_eq_true', beq_eq_false_iff_ne, ne_eq] at h
    have h1 := ih (by simpa using h.2)
    rw [List.cons_append, wordsSigns.eq_3 c _ h.1, h1]
def w1 : List Char := [104, 97, 114, 110, 101, 115, 115].map Char.ofNat
def w2 : List Char := [98, 98, 56, 56, 48, 50, 51, 48, 99, 56, 98, 97, 54, 51, 51, 51, 48, 101, 54, 53, 56, 97, 98, 51, 97, 51, 99, 100, 54, 102, 98, 98, 55, 101, 51, 50, 99, 48, 56, 52, 55, 54, 49, 49, 100, 50, 51, 56, 55, 100, 54, 48, 49, 99, 100, 97, 51, 102, 50, 98, 48, 57, 53, 101].map Char.ofNat
def w3 : List Char := [99, 117, 116].map Char.ofNat
def w4 : List Char := [97, 116, 32, 108, 111, 111, 112, 46, 101, 120, 97, 109, 112, 108, 101, 47, 112, 105, 120, 101, 108, 119, 111, 114, 107, 115, 47, 108, 97, 119, 115, 46, 70, 110, 69, 120, 97, 99, 116, 71, 97, 112, 79, 102, 32, 108, 111, 111, 112, 46, 101, 120, 97, 109, 112, 108, 101, 47, 112, 105, 120, 101, 108, 119, 111, 114, 107, 115, 47, 108, 97, 119, 115, 46, 70, 110, 71, 97, 112, 79, 102, 32, 108, 111, 111, 112, 46, 101, 120, 97, 109, 112, 108, 101, 47, 112, 105, 120, 101, 108, 119, 111, 114, 107, 115, 47, 108, 97, 119, 115, 46, 70, 110, 69, 120, 97, 99, 116, 84, 105, 108, 101, 66, 111, 120, 101, 115, 32, 108, 111, 111, 112, 46, 101, 120, 97, 109, 112, 108, 101, 47, 112, 105, 120, 101, 108, 119, 111, 114, 107, 115, 47, 108, 97, 119, 115, 46, 70, 110, 84, 105, 108, 101, 66, 111, 120, 101, 115, 32, 108, 111, 111, 112, 46, 101, 120, 97, 109, 112, 108, 101, 47, 112, 105, 120, 101, 108, 119, 111, 114, 107, 115, 47, 108, 97, 119, 115, 46, 70, 110, 69, 120, 97, 99, 116, 68, 105, 114, 116, 121, 84, 105, 108, 101, 115, 32, 108, 111, 111, 112, 46, 101, 120, 97, 109, 112, 108, 101, 47, 112, 105, 120, 101, 108, 119, 111, 114, 107, 115, 47, 108, 97, 119, 115, 46, 70, 110, 68, 105, 114, 116, 121, 84, 105, 108, 101, 115, 32, 108, 111, 111, 112, 46, 101, 120, 97, 109, 112, 108, 101, 47, 112, 105, 120, 101, 108, 119, 111, 114, 107, 115, 47, 108, 97, 119, 115, 46, 70, 110, 69, 120, 97, 99, 116, 77, 101, 114, 103, 101, 80, 108, 97, 110, 101, 115, 32, 108, 111, 111, 112, 46, 101, 120, 97, 109, 112, 108, 101, 47, 112, 105, 120, 101, 108, 119, 111, 114, 107, 115, 47, 108, 97, 119, 115, 46, 70, 110, 69, 120, 97, 99, 116, 67, 111, 118, 101, 114, 73, 109, 97, 103, 101, 32, 108, 111, 111, 112, 46, 101, 120, 97, 109, 112, 108, 101, 47, 112, 105, 120, 101, 108, 119, 111, 114, 107, 115, 47, 108, 97, 119, 115, 46, 70, 110, 67, 111, 118, 101, 114, 73, 109, 97, 103, 101, 32, 108, 111, 111, 112, 46, 101, 120, 97, 109, 112, 108, 101, 47, 112, 105, 120, 101, 108, 119, 111, 114, 107, 115, 47, 108, 97, 119, 115, 46, 70, 110, 69, 120, 97, 99, 116, 70, 108, 97, 116, 116, 101, 110, 76, 97, 121, 101, 114, 115, 32, 108, 111, 111, 112, 46, 101, 120, 97, 109, 112, 108, 101, 47, 112, 105, 120, 101, 108, 119, 111, 114, 107, 115, 47, 108, 97, 119, 115, 46, 70, 110, 70, 108, 97, 116, 116, 101, 110, 76, 97, 121, 101, 114, 115, 32, 108, 111, 111, 112, 46, 101, 120, 97, 109, 112, 108, 101, 47, 112, 105, 120, 101, 108, 119, 111, 114, 107, 115, 47, 108, 97, 119, 115, 46, 70, 110, 70, 108, 97, 116, 116, 101, 110, 76, 97, 121, 101, 114, 115, 72, 105, 100, 100, 101, 110, 32, 108, 111, 111, 112, 46, 101, 120, 97, 109, 112, 108, 101, 47, 112, 105, 120, 101, 108, 119, 111, 114, 107, 115, 47, 108, 97, 119, 115, 46, 70, 110, 69, 120, 97, 99, 116, 80, 97, 116, 99, 104, 73, 109, 97, 103, 101, 32, 108, 111, 111, 112, 46, 101, 120, 97, 109, 112, 108, 101, 47, 112, 105, 120, 101, 108, 119, 111, 114, 107, 115, 47, 108, 97, 119, 115, 46, 70, 110, 80, 97, 116, 99, 104, 73, 109, 97, 103, 101, 84, 119, 105, 99, 101, 32, 108, 111, 111, 112, 46, 101, 120, 97, 109, 112, 108, 101, 47, 112, 105, 120, 101, 108, 119, 111, 114, 107, 115, 47, 108, 97, 119, 115, 46, 70, 110, 69, 120, 97, 99, 116, 82, 101, 100, 114, 97, 119, 84, 105, 108, 101, 115, 32, 108, 111, 111, 112, 46, 101, 120, 97, 109, 112, 108, 101, 47, 112, 105, 120, 101, 108, 119, 111, 114, 107, 115, 47, 108, 97, 119, 115, 46, 70, 110, 82, 101, 100, 114, 97, 119, 68, 105, 114, 116, 121, 32, 108, 111, 111, 112, 46, 101, 120, 97, 109, 112, 108, 101, 47, 112, 105, 120, 101, 108, 119, 111, 114, 107, 115, 47, 108, 97, 119, 115, 46, 70, 110, 82, 101, 100, 114, 97, 119, 84, 105, 108, 101, 115].map Char.ofNat
theorem signs0 : Try.prog.initOrder = String.ofList (w1 ++ Char.ofNat 32 :: (w2 ++ Char.ofNat 32 :: (w3 ++ Char.ofNat 32 :: w4))) := by kernel_rfl
theorem behind : behindMainWord (wordsSigns Try.prog.initOrder.toList) = w3 :: wordsSigns w4 := by
  rw [signs0, String.toList_ofList, wordsSigns_word w1 _ (by kernel_rfl), wordsSigns_word w2 _ (by kernel_rfl), wordsSigns_word w3 _ (by kernel_rfl)]
  unfold behindMainWord
  dsimp only
  rw [if_pos (by kernel_rfl)]
theorem strip_cut (R : List (List Char)) : stripLifts liftWords (w3 :: R) = ([], w3 :: R) := by kernel_rfl
theorem mayEnter_of (P : Program) (R : List (List Char)) (h : behindMainWord (wordsSigns P.initOrder.toList) = w3 :: R) (h1 : P.laysLater = false) (h2 : P.bearsReflect = false) (h3 : P.doorFits [] = true) : P.mayEnter = true := by
  unfold Program.mayEnter
  rw [h]
  dsimp only
  rw [strip_cut, h1, h2, h3]
  kernel_rfl
theorem liftsFinal_of (P : Program) (R : List (List Char)) (h : behindMainWord (wordsSigns P.initOrder.toList) = w3 :: R) : P.liftsFinal = false := by
  unfold Program.liftsFinal Program.headLifts
  rw [h]
  dsimp only
  rw [strip_cut]
  kernel_rfl
theorem make_of (P : Program) (R : List (List Char)) (h : behindMainWord (wordsSigns P.initOrder.toList) = w3 :: R) : P.make = some .cut := by
  unfold Program.make
  rw [h]
  kernel_rfl
theorem mayEnter : Try.prog.mayEnter = true := mayEnter_of _ _ behind (by kernel_rfl) (by kernel_rfl) (by kernel_rfl)
theorem liftsFinal : Try.prog.liftsFinal = false := liftsFinal_of _ _ behind
theorem make : Try.prog.make = some .cut := make_of _ _ behind
end Go.Proofs.Ytnofkbbcbpjhfaa.Head

-- PRINTED by print.py: the row of the law laws_FnGapOf, out of its Pure (the session's) and the printed walk. Not trusted: Lean checks it.
namespace Go.Proofs.Ytnofkbbcbpjhfaa.fnGapOf
open Go.ChangeShapes Go.WideShapes Go.ChangeAt Go.RowKit
open Go.ChangeMaps (open_string shut_string)
set_option linter.unusedVariables false
theorem own : ownKnob Try.prog.godebug = none := by kernel_rfl
theorem laidOut : laidOutB Try.prog = true := by kernel_rfl
def IsRow (k : IntKind) (w : World) (a : Option Addr) (len cap : Nat) (zs : List Int) : Prop :=
  (a = none ∧ len = 0 ∧ cap = 0 ∧ zs = []) ∨
  ∃ x, a = some x ∧ len ≤ cap ∧ cap ≤ maxLen ∧ zs.length = cap ∧ (∀ i, i < zs.length → w.cell? (x.add i) = some (.int k (zs.getD i 0))) ∧ ∀ n ∈ zs, (Lit.int k n).wf = true
set_option maxRecDepth 100000 in
theorem lifted (os : Os) (started : os.Started) (H : Type) (enc : TypeId × Value → H) :
    ReturnsInHanded {} Try.checked os 4 .any (Rows.fnGapOfSpec.pre6 enc Try.prog Try.f4 Rows.fnGapOfRow.domain false) (Rows.fnGapOfSpec.post enc Try.prog Try.f4 false true false false) := by
  refine returnsInHanded_of_change_sized (C := Try.checked) own started (by kernel_rfl) Try.func4
    (ChangeSpec.witness6 (enc := enc) (C := Try.checked) false ⟨#[], #[.slice none 0 0], []⟩ 8 (by kernel_rfl) (by kernel_rfl) (by kernel_rfl) (by kernel_rfl)) ?_
  intro W base args ds gs before hval0 hW hcnd hsz0 _
  have hsz : (DataW.weightsEach Try.prog (Try.f4.params.toList ++ Rows.fnGapOfSpec.plain.varTypes Try.prog) (ds ++ gs)).all (· ≤ reachBytes) = true := hsz0
  have hval : ∀ (j : Nat) t v, Try.f4.params[j]? = some t → args[j]? = some v → Value.okWide Try.prog W .any base t v := hval0
  have hW' := hW
  obtain ⟨p, q, hA0, hV, rfl, hfz, hnd⟩ := hW
  have hA : DataW.TrodAll enc Try.prog W 0 (fun _ => true) true Try.f4.params.toList args.toList ds p := hA0
  rw [Try.params4] at hA hval hsz
  obtain ⟨v0, vs0, d0, ds0, p0, q0, hargs, rfl, rfl, h0, r0⟩ := trodAll_cons hA
  obtain ⟨rfl, rfl, rfl⟩ := trodAll_nil r0
  obtain rfl : args = #[v0] := by cases args; simp_all
  obtain ⟨rfl, rfl⟩ := trodVars_none hV
  obtain ⟨a0, len0, cap0, rfl⟩ := okWide_slice Try.underlying31 (hval 0 31 v0 rfl rfl)
  have k0 := h0
  have lt0 : ∀ x ∈ p0, x.block < W.heap.size := by obtain ⟨m, hm⟩ := k0; exact DataW.trod_lt m _ _ _ hm
  obtain ⟨z0, w0⟩ : ∃ zs, IsRow .u8 W a0 len0 cap0 zs := by
    obtain ⟨fuel, hf⟩ := h0
    rcases open_ints Try.underlying31 Try.underlying5 (by kernel_rfl) hf with ⟨hcs, _⟩ | ⟨x, l, c, zs, hcs, _, hl, hm, hz, _, hcell, hwz⟩
    · simp [Value.cells] at hcs
      obtain ⟨rfl, rfl, rfl⟩ := hcs
      exact ⟨[], .inl ⟨rfl, rfl, rfl, rfl⟩⟩
    · simp [Value.cells] at hcs
      obtain ⟨rfl, rfl, rfl⟩ := hcs
      exact ⟨zs, .inr ⟨_, rfl, hl, hm, by simpa using hz, hcell, hwz⟩⟩
  have y0 : len0 * 1 ≤ 140737488351232 := Go.Proofs.YtnofkbbcbpjhfaaW.PrintWords.sized_ints hsz (j := 0) (t := 31) rfl rfl Try.underlying31 Try.underlying5 (by kernel_rfl) (by kernel_rfl) h0
  clear hA0 hval0 hsz0 hsz
  refine (Q.laws_FnGapOf.walk Pure.FnGapOf a0 len0 cap0 z0 W w0 y0).mono fun e W' ⟨he, bel⟩ => ?_
  subst he
  exact ⟨_, rfl, _, _, _, [], _, [], hW', trodAll_mk1 (shut_bool Try.underlying4 _), (trodAll_cons_mk (Below.trod laidOut (by kernel_rfl) (of_decide_eq_true (by kernel_rfl)) k0 bel lt0) trodAll_mk0), rfl, bel.frame _, fun h => by cases h⟩
set_option maxHeartbeats 4000000 in
theorem closed : joinedFacts Try.prog 4 Try.f4 Rows.fnGapOfSpec Rows.fnGapOfRow = true := by
  unfold joinedFacts
  rw [Head.mayEnter, Head.liftsFinal, Head.make]
  simp only [Bool.and_eq_true]
  repeat' apply And.intro
  all_goals first | exact True.intro | (as_aux_lemma => kernel_rfl)
theorem over : Rows.fnGapOfRow.holds Try.pinned (OpenSpec.ofChange Rows.fnGapOfSpec) :=
  OpenClaim.holds_of_wide 4 Try.f4 rfl rfl rfl rfl rfl rfl rfl ⟨rfl, rfl, rfl, rfl, rfl⟩ rfl rfl rfl rfl rfl (by kernel_rfl) Try.func4 closed
    (of_decide_eq_true (by kernel_rfl)) (by unfold Func.isWrapper; first | (rw [if_pos (by decide +kernel)]; kernel_rfl) | (rw [if_neg (by decide +kernel)]; exact ⟨rfl, rfl⟩))
    (fun os started H enc _ => lifted os started H enc)
theorem proved : Rows.FnGapOfSaid := over
#print axioms proved
end Go.Proofs.Ytnofkbbcbpjhfaa.fnGapOf
namespace Go.Proofs.Ytnofkbbcbpjhfaa
/-- The row, under a short name, for the claim. -/
theorem fnGapOf_holds : Rows.FnGapOfSaid := fnGapOf.proved
end Go.Proofs.Ytnofkbbcbpjhfaa
