/- A part of the proof that the statement FnExactMergePlanesSaid holds, under no condition of its own: The program's MergePlanes and the reference's return the same, and what is returned is held by nobody else: over lists of numbers alone. -/
import Derived.Test.YtnofkbbcbpjhfaaCFnExactMergePlanes3
import Derived.Test.YtnofkbbcbpjhfaaCFnExactMergePlanes2
import Derived.Test.YtnofkbbcbpjhfaaRows
import Derived.JoinedOf
import Derived.KernelRfl
import Derived.WalkKit
import Derived.ProofKit
import Derived.OpenShut
import Derived.ShutString
import Derived.ChangeOld
import Derived.Below
import Derived.SizedLaws
import Derived.Carry
/- impl.MergePlanes: planes of one size together, if they are such. -/
namespace Go.Proofs.Ytnofkbbcbpjhfaa.Q
open Go.RowKit Go.Proofs.YtnofkbbcbpjhfaaW.PrintWords Go.Proofs.YtnofkbbcbpjhfaaW.PrintLast Go.Proofs.YtnofkbbcbpjhfaaW.PrintMore
attribute [local go_sem] max2_int min2_int max_two min_two max_three min_three max_four min_four
set_option linter.unusedVariables false
set_option linter.unusedSimpArgs false
open Go.Proofs.Ytnofkbbcbpjhfaa.Pure

def planeB (a b : Int) (m : S27) : Bool := validI m.f0 m.f1 m.f2 m.f3 && decide (m.f2 = 1) && decide (m.f0 = a) && decide (m.f1 = b)
def mergeOK (l : List S27) : Bool := decide (1 ≤ l.length) && decide (l.length ≤ 4) && l.all (planeB (rd_T27 l 0).f0 (rd_T27 l 0).f1)
def impl_MergePlanes.f (l : List S27) : Option (Int × Int × Int × List Int × Bool) :=
  some (if mergeOK l = true then ((rd_T27 l 0).f0, (rd_T27 l 0).f1, (l.length : Int), imgD (mergePx l) (rd_T27 l 0).f0.toNat (rd_T27 l 0).f1.toNat, true) else (0, 0, 0, [], false))
theorem planeB_ok {a b : Int} {m : S27} (h : planeB a b m = true) : planeOK a b m := by
  unfold planeB at h
  simp only [Bool.and_eq_true, decide_eq_true_eq] at h
  exact ⟨h.1.1.1, h.1.1.2, h.1.2, h.2⟩
theorem merge_no {l : List S27} {r1 r2 r3 : Int} {r4 : List Int} {r5 : Bool} (h : impl_MergePlanes.f l = some (r1, r2, r3, r4, r5)) (hn : mergeOK l = false) : 0 = r1 ∧ 0 = r2 ∧ 0 = r3 ∧ [] = r4 ∧ false = r5 := by
  unfold impl_MergePlanes.f at h
  rw [if_neg (by rw [hn]; simp)] at h
  simpa using h
theorem merge_bad {l : List S27} {i : Nat} (hi : i < l.length) (h : planeB (rd_T27 l 0).f0 (rd_T27 l 0).f1 (rd_T27 l (i : Int)) = false) : mergeOK l = false := by
  have e : rd_T27 l (i : Int) = l[i] := by simp [rd_T27, hi]
  rw [e] at h
  have h2 : l.all (planeB (rd_T27 l 0).f0 (rd_T27 l 0).f1) = false := List.all_eq_false.2 ⟨l[i], List.getElem_mem _, by rw [h]; simp⟩
  unfold mergeOK
  rw [h2, Bool.and_false]
theorem add_none (ad : Addr) : ad.add (0 * 4) = ad := by unfold Addr.add; simp
theorem bcell (W : World) {W2 : World} {a : Addr} {v : Value} (hb : Below W.drew.heap.size W.drew W2) (h : W.cell? a = some v) : W2.cell? a = some v := (hb.cell (World.block_lt_of_cell? W a h)).trans h
set_option maxHeartbeats 4000000 in
set_option maxRecDepth 100000 in
theorem merge_few (A0 : Option Addr) (c0 : Nat) (l : List S27) (w : World) (hr0 : Kd.C k27 w A0 l.length l) (hc0 : l.length ≤ c0) (hn : l.length < 1) :
    Calls Try.prog 56 #[.slice A0 l.length c0] w fun e w' => ∃ v3_ : Value, e = .returned (.tuple #[.agg #[.int .i64 0, .int .i64 0, .int .i64 0, v3_], .bool false]) ∧ Kd.R (Kd.int .i64) 3 w' w.heap.size (fun _ => True) v3_ [] ∧ Below w.heap.size w w' := by
  have hm : l.length ≤ 9223372036854775807 := hr0.2.1
  have HR := Aside0.mk hr0
  have HC := Aside0.mk hc0
  have HB0 := Aside0.mk (Below.refl w.heap.size w)
  have hu := Try.underlying71
  have huo := Try.underlying27
  clear hr0 hc0
  have q1 : decide ((l.length : Int) < 1) = true := decide_eq_true (by omega)
  go_enter Try.func56, Try.ntmps56
  go_wp2_with (first
    | ((with_reducible refine gate_dst (N := 1) rfl ?_); refine box_event ?hg (N := 1) ?hd (cs := #[.slice A0 l.length c0]) (t := 71) ?hr ?_; (case hd => rfl); (case hg => rfl); (case hr => first | (go_simp; done) | (go_simp; rfl)); intro g1 hg_ w1 hbox hb; have HB1 := Aside0.mk (below_then HB0.out HB0.out.size hb); have K1 := Aside0.mk hbox; have Gg1 := Aside0.mk (show w.heap.size ≤ g1 from by rw [hg_]; exact HB0.out.size); clear hbox hb hg_)
    | ((with_reducible refine gate_dst (N := 2) rfl ?_); refine box_event ?hg (N := 2) ?hd (cs := #[.int .i64 0, .int .i64 0, .int .i64 0, .slice none 0 0]) (t := 27) ?hr ?_; (case hd => rfl); (case hg => rfl); (case hr => first | (go_simp; done) | (go_simp; rfl)); intro g2 hg_ w2 hbox hb; have HB2 := Aside0.mk (below_then HB1.out HB1.out.size hb); have K2 := Aside0.mk hbox; have Gg2 := Aside0.mk (show w.heap.size ≤ g2 from by rw [hg_]; exact HB1.out.size); have K12 := Aside0.mk (blk_below K1.out hb); have fa0 : w2.cell? ⟨g1, 0, none⟩ = some (.slice A0 l.length c0) := (blk_cell K12.out 0).trans rfl; have fb0 : w2.cell? ⟨g2, 0, none⟩ = some (.int .i64 0) := (blk_cell K2.out 0).trans rfl; have fb1 : w2.cell? ⟨g2, 1, none⟩ = some (.int .i64 0) := (blk_cell K2.out 1).trans rfl; have fb2 : w2.cell? ⟨g2, 2, none⟩ = some (.int .i64 0) := (blk_cell K2.out 2).trans rfl; have fb3 : w2.cell? ⟨g2, 3, none⟩ = some (.slice none 0 0) := (blk_cell K2.out 3).trans rfl; have yb0 := blk_frozen K2.out 0; have yb1 := blk_frozen K2.out 1; have yb2 := blk_frozen K2.out 2; have yb3 := blk_frozen K2.out 3; clear hbox hb hg_))
  refine bodyPost_ret (results_ct rfl _ _ g2 27 #[.int .i64 0, .int .i64 0, .int .i64 0, .slice none 0 0] (0, 0) _ rfl (by
    refine blk_put (cs := #[.int .i64 0, .int .i64 0, .int .i64 0, .slice none 0 0]) ?_ 3 _ rfl
    refine blk_put (cs := #[.int .i64 0, .int .i64 0, .int .i64 0, .slice none 0 0]) ?_ 2 _ rfl
    refine blk_put (cs := #[.int .i64 0, .int .i64 0, .int .i64 0, .slice none 0 0]) ?_ 1 _ rfl
    refine blk_put (cs := #[.int .i64 0, .int .i64 0, .int .i64 0, .slice none 0 0]) ?_ 0 _ rfl
    exact K2.out
    ) huo rfl (by kernel_rfl)) rfl ?_
  have G2 := Gg2.out
  exact ⟨_, rfl, Kd.R_nil _ _ _ _ _, below_set (below_set (below_set (below_set HB2.out (by omega)) (by omega)) (by omega)) (by omega)⟩
set_option maxHeartbeats 4000000 in
set_option maxRecDepth 100000 in
theorem merge_many (A0 : Option Addr) (c0 : Nat) (l : List S27) (w : World) (hr0 : Kd.C k27 w A0 l.length l) (hc0 : l.length ≤ c0) (hn : 4 < l.length) :
    Calls Try.prog 56 #[.slice A0 l.length c0] w fun e w' => ∃ v3_ : Value, e = .returned (.tuple #[.agg #[.int .i64 0, .int .i64 0, .int .i64 0, v3_], .bool false]) ∧ Kd.R (Kd.int .i64) 3 w' w.heap.size (fun _ => True) v3_ [] ∧ Below w.heap.size w w' := by
  have hm : l.length ≤ 9223372036854775807 := hr0.2.1
  have HR := Aside0.mk hr0
  have HC := Aside0.mk hc0
  have HB0 := Aside0.mk (Below.refl w.heap.size w)
  have hu := Try.underlying71
  have huo := Try.underlying27
  clear hr0 hc0
  have q1 : decide ((l.length : Int) < 1) = false := decide_eq_false (by omega)
  have q2 : decide ((4 : Int) < (l.length : Int)) = true := decide_eq_true (by omega)
  have q3 : decide (4 < l.length) = true := decide_eq_true hn
  go_enter Try.func56, Try.ntmps56
  go_wp2_with (first
    | ((with_reducible refine gate_dst (N := 1) rfl ?_); refine box_event ?hg (N := 1) ?hd (cs := #[.slice A0 l.length c0]) (t := 71) ?hr ?_; (case hd => rfl); (case hg => rfl); (case hr => first | (go_simp; done) | (go_simp; rfl)); intro g1 hg_ w1 hbox hb; have HB1 := Aside0.mk (below_then HB0.out HB0.out.size hb); have K1 := Aside0.mk hbox; have Gg1 := Aside0.mk (show w.heap.size ≤ g1 from by rw [hg_]; exact HB0.out.size); clear hbox hb hg_)
    | ((with_reducible refine gate_dst (N := 2) rfl ?_); refine box_event ?hg (N := 2) ?hd (cs := #[.int .i64 0, .int .i64 0, .int .i64 0, .slice none 0 0]) (t := 27) ?hr ?_; (case hd => rfl); (case hg => rfl); (case hr => first | (go_simp; done) | (go_simp; rfl)); intro g2 hg_ w2 hbox hb; have HB2 := Aside0.mk (below_then HB1.out HB1.out.size hb); have K2 := Aside0.mk hbox; have Gg2 := Aside0.mk (show w.heap.size ≤ g2 from by rw [hg_]; exact HB1.out.size); have K12 := Aside0.mk (blk_below K1.out hb); have fa0 : w2.cell? ⟨g1, 0, none⟩ = some (.slice A0 l.length c0) := (blk_cell K12.out 0).trans rfl; have fb0 : w2.cell? ⟨g2, 0, none⟩ = some (.int .i64 0) := (blk_cell K2.out 0).trans rfl; have fb1 : w2.cell? ⟨g2, 1, none⟩ = some (.int .i64 0) := (blk_cell K2.out 1).trans rfl; have fb2 : w2.cell? ⟨g2, 2, none⟩ = some (.int .i64 0) := (blk_cell K2.out 2).trans rfl; have fb3 : w2.cell? ⟨g2, 3, none⟩ = some (.slice none 0 0) := (blk_cell K2.out 3).trans rfl; have yb0 := blk_frozen K2.out 0; have yb1 := blk_frozen K2.out 1; have yb2 := blk_frozen K2.out 2; have yb3 := blk_frozen K2.out 3; clear hbox hb hg_))
  refine bodyPost_ret (results_ct rfl _ _ g2 27 #[.int .i64 0, .int .i64 0, .int .i64 0, .slice none 0 0] (0, 0) _ rfl (by
    refine blk_put (cs := #[.int .i64 0, .int .i64 0, .int .i64 0, .slice none 0 0]) ?_ 3 _ rfl
    refine blk_put (cs := #[.int .i64 0, .int .i64 0, .int .i64 0, .slice none 0 0]) ?_ 2 _ rfl
    refine blk_put (cs := #[.int .i64 0, .int .i64 0, .int .i64 0, .slice none 0 0]) ?_ 1 _ rfl
    refine blk_put (cs := #[.int .i64 0, .int .i64 0, .int .i64 0, .slice none 0 0]) ?_ 0 _ rfl
    exact K2.out
    ) huo rfl (by kernel_rfl)) rfl ?_
  have G2 := Gg2.out
  exact ⟨_, rfl, Kd.R_nil _ _ _ _ _, below_set (below_set (below_set (below_set HB2.out (by omega)) (by omega)) (by omega)) (by omega)⟩
set_option maxHeartbeats 4000000 in
set_option maxRecDepth 100000 in
theorem merge_mid (A0 : Option Addr) (c0 : Nat) (l : List S27) (w : World) (hr0 : Kd.C k27 w A0 l.length l) (hc0 : l.length ≤ c0) (hn1 : 1 ≤ l.length) (hn4 : l.length ≤ 4) (r1 r2 r3 : Int) (r4 : List Int) (r5 : Bool) (h : impl_MergePlanes.f l = some (r1, r2, r3, r4, r5)) :
    Calls Try.prog 56 #[.slice A0 l.length c0] w fun e w' => ∃ v3_ : Value, e = .returned (.tuple #[.agg #[.int .i64 r1, .int .i64 r2, .int .i64 r3, v3_], .bool r5]) ∧ Kd.R (Kd.int .i64) 3 w' w.heap.size (fun _ => True) v3_ r4 ∧ Below w.heap.size w w' := by
  have hm : l.length ≤ 9223372036854775807 := hr0.2.1
  have HR := Aside0.mk hr0
  have HC := Aside0.mk hc0
  have HB0 := Aside0.mk (Below.refl w.heap.size w)
  have hu := Try.underlying71
  have huo := Try.underlying27
  clear hr0 hc0
  have H := Aside0.mk h
  have qa : decide ((l.length : Int) < 1) = false := decide_eq_false (by omega)
  have qb : decide ((4 : Int) < (l.length : Int)) = false := decide_eq_false (by omega)
  have qc : decide (4 < l.length) = false := decide_eq_false (by omega)
  clear h
  go_enter Try.func56, Try.ntmps56
  go_wp2_with (first
    | ((with_reducible refine gate_dst (N := 1) rfl ?_); refine box_event ?hg (N := 1) ?hd (cs := #[.slice A0 l.length c0]) (t := 71) ?hr ?_; (case hd => rfl); (case hg => rfl); (case hr => first | (go_simp; done) | (go_simp; rfl)); intro g1 hg_ w1 hbox hb; have HB1 := Aside0.mk (below_then HB0.out HB0.out.size hb); have K1 := Aside0.mk hbox; have Gg1 := Aside0.mk (show w.heap.size ≤ g1 from by rw [hg_]; exact HB0.out.size); clear hbox hb hg_)
    | ((with_reducible refine gate_dst (N := 2) rfl ?_); refine box_event ?hg (N := 2) ?hd (cs := #[.int .i64 0, .int .i64 0, .int .i64 0, .slice none 0 0]) (t := 27) ?hr ?_; (case hd => rfl); (case hg => rfl); (case hr => first | (go_simp; done) | (go_simp; rfl)); intro g2 hg_ w2 hbox hb; have HB2 := Aside0.mk (below_then HB1.out HB1.out.size hb); have K2 := Aside0.mk hbox; have Gg2 := Aside0.mk (show w.heap.size ≤ g2 from by rw [hg_]; exact HB1.out.size); have K12 := Aside0.mk (blk_below K1.out hb); have fa0 : w2.cell? ⟨g1, 0, none⟩ = some (.slice A0 l.length c0) := (blk_cell K12.out 0).trans rfl; have fb0 : w2.cell? ⟨g2, 0, none⟩ = some (.int .i64 0) := (blk_cell K2.out 0).trans rfl; have fb1 : w2.cell? ⟨g2, 1, none⟩ = some (.int .i64 0) := (blk_cell K2.out 1).trans rfl; have fb2 : w2.cell? ⟨g2, 2, none⟩ = some (.int .i64 0) := (blk_cell K2.out 2).trans rfl; have fb3 : w2.cell? ⟨g2, 3, none⟩ = some (.slice none 0 0) := (blk_cell K2.out 3).trans rfl; have yb0 := blk_frozen K2.out 0; have yb1 := blk_frozen K2.out 1; have yb2 := blk_frozen K2.out 2; have yb3 := blk_frozen K2.out 3; clear hbox hb hg_))
  go_loopw [17] (fun v17 W => ∃ i : Nat, v17 = .int .i64 i ∧ i ≤ l.length ∧ Aside0 ((∀ q ∈ l.take i, planeB (rd_T27 l 0).f0 (rd_T27 l 0).f1 q = true) ∧ Below w2.heap.size w2 W)) (fun v17 _ => l.length - (intOf v17).toNat)
  case atStart => exact ⟨0, rfl, by omega, ⟨by simp, Below.refl _ _⟩⟩
  case round =>
    obtain ⟨i, rfl, hi, HV⟩ := hrel
    by_cases hlt : i < l.length
    · skip
      have q1 : decide ((i : Int) < (l.length : Int)) = true := decide_eq_true (by omega)
      have E1 := Aside0.mk (show rd_T27 l (i : Int) = l[i] from by simp [rd_T27, hlt])
      obtain ⟨ad, A3, cq, eA, hx0, hx1, hx2, hx3, l3, g3⟩ := at_T27 (Kd.C_below (Kd.C_below HR.out HB2.out) HV.out.2) (i : Int) (by omega) (by omega)
      obtain ⟨ad', Az, cz, eB, hz0, hz1, _, _, _, _⟩ := at_T27 (Kd.C_below (Kd.C_below HR.out HB2.out) HV.out.2) 0 (by omega) (by omega)
      subst eA
      injection eB with eB
      subst eB
      rw [Int.toNat_natCast] at hx0 hx1 hx2 hx3
      have hz0 : (wr.alloc (.cells #[.int .i64 (rd_T27 l (i : Int)).f0, .int .i64 (rd_T27 l (i : Int)).f1, .int .i64 (rd_T27 l (i : Int)).f2, .slice A3 (rd_T27 l (i : Int)).f3.length cq] 27 (0, 0))).cell? (ad.add (0 * 4)) = some (.int .i64 (rd_T27 l 0).f0) := (World.cell?_alloc_lt _ _ _ (World.block_lt_of_cell? _ _ hz0)).trans hz0
      have hz1 : (wr.alloc (.cells #[.int .i64 (rd_T27 l (i : Int)).f0, .int .i64 (rd_T27 l (i : Int)).f1, .int .i64 (rd_T27 l (i : Int)).f2, .slice A3 (rd_T27 l (i : Int)).f3.length cq] 27 (0, 0))).cell? ⟨(ad.add (0 * 4)).block, (ad.add (0 * 4)).off + 1, none⟩ = some (.int .i64 (rd_T27 l 0).f1) := (World.cell?_alloc_lt _ _ _ (World.block_lt_of_cell? _ _ hz1)).trans hz1
      have HPB := Aside0.mk (show planeB (rd_T27 l 0).f0 (rd_T27 l 0).f1 (rd_T27 l (i : Int)) = (validI (rd_T27 l (i : Int)).f0 (rd_T27 l (i : Int)).f1 (rd_T27 l (i : Int)).f2 (rd_T27 l (i : Int)).f3 && decide ((rd_T27 l (i : Int)).f2 = 1) && decide ((rd_T27 l (i : Int)).f0 = (rd_T27 l 0).f0) && decide ((rd_T27 l (i : Int)).f1 = (rd_T27 l 0).f1)) from rfl)
      have KS := Aside0.mk (blk_new wr (.cells #[.int .i64 (rd_T27 l (i : Int)).f0, .int .i64 (rd_T27 l (i : Int)).f1, .int .i64 (rd_T27 l (i : Int)).f2, .slice A3 (rd_T27 l (i : Int)).f3.length cq] 27 (0, 0)))
      have HBB := Aside0.mk (below_alloc HV.out.2 (.cells #[.int .i64 (rd_T27 l (i : Int)).f0, .int .i64 (rd_T27 l (i : Int)).f1, .int .i64 (rd_T27 l (i : Int)).f2, .slice A3 (rd_T27 l (i : Int)).f3.length cq] 27 (0, 0)))
      have G3 := Aside0.mk (Kd.C_below g3 (below_alloc (Below.refl _ _) (.cells #[.int .i64 (rd_T27 l (i : Int)).f0, .int .i64 (rd_T27 l (i : Int)).f1, .int .i64 (rd_T27 l (i : Int)).f2, .slice A3 (rd_T27 l (i : Int)).f3.length cq] 27 (0, 0))))
      have L3 := Aside0.mk l3
      have hga : wr.cell? ⟨g1, 0, none⟩ = some (.slice (some ad) l.length c0) := (blk_cell (blk_below K12.out HV.out.2) 0).trans rfl
      have EV := Aside0.mk (impl_isImage_eq (rd_T27 l (i : Int)).f0 (rd_T27 l (i : Int)).f1 (rd_T27 l (i : Int)).f2 (rd_T27 l (i : Int)).f3)
      have HT := Aside0.mk HV.out.1
      clear HV g3 l3
      go_wp2_with fail
      generalize (wr.alloc (.cells #[.int .i64 (rd_T27 l (i : Int)).f0, .int .i64 (rd_T27 l (i : Int)).f1, .int .i64 (rd_T27 l (i : Int)).f2, .slice A3 (rd_T27 l (i : Int)).f3.length cq] 27 (0, 0))) = w5 at KS HBB G3 hz0 hz1 ⊢
      generalize wr.heap.size = gs at KS ⊢
      obtain ⟨z0, hy0⟩ : ∃ z0, z0 = (rd_T27 l 0).f0 := ⟨_, rfl⟩
      obtain ⟨z1, hy1⟩ : ∃ z1, z1 = (rd_T27 l 0).f1 := ⟨_, rfl⟩
      rw [← hy0] at hz0 HPB HT
      rw [← hy1] at hz1 HPB HT
      rw [show ad.add (0 * 4) = ad from add_none ad] at hz0 hz1
      have HZ0 := Aside0.mk hy0
      have HZ1 := Aside0.mk hy1
      clear hx0 hx1 hx2 hx3 hga hy0 hy1
      have hl0 : 0 < l.length := by omega
      generalize (rd_T27 l (i : Int)).f0 = x0 at *
      generalize (rd_T27 l (i : Int)).f1 = x1 at *
      generalize (rd_T27 l (i : Int)).f2 = x2 at *
      generalize (rd_T27 l (i : Int)).f3 = x3 at *
      by_cases c1 : validI x0 x1 x2 x3 = true
      · rw [c1] at EV
        by_cases c2 : x2 = 1
        · subst c2
          by_cases c3 : x0 = z0
          · subst c3
            by_cases c4 : x1 = z1
            · subst c4
              refine start_ (n := 26) (S := fun w' => w'.cell? ⟨gs, 0, none⟩ = some (.int .i64 x0) ∧ w'.cell? ⟨gs, 1, none⟩ = some (.int .i64 x1) ∧ w'.cell? ⟨gs, 2, none⟩ = some (.int .i64 1) ∧ w'.cell? ⟨gs, 3, none⟩ = some (.slice A3 x3.length cq) ∧ w'.cell? ⟨g1, 0, none⟩ = some (.slice (some ad) l.length c0) ∧ w'.cell? ad = some (.int .i64 x0) ∧ w'.cell? ⟨ad.block, ad.off + 1, none⟩ = some (.int .i64 x1)) (ds := []) #[false, false, false, false, false, false, false, false, false, false, false, false, false, false, false, false, false, false, false, false, false, false, false, false, false, false] (by kernel_rfl) rfl rfl ⟨((blk_cell (blk_drew KS.out) 0).trans rfl), ((blk_cell (blk_drew KS.out) 1).trans rfl), ((blk_cell (blk_drew KS.out) 2).trans rfl), ((blk_cell (blk_drew KS.out) 3).trans rfl), ((blk_cell (blk_drew (blk_below K12.out HBB.out)) 0).trans rfl), hz0, hz1⟩ (fun hHeld => ?_)
              refine take_ (i := 0) (N := some 21) (v := ?_) (a' := ?_) #[true, false, false, false, false, false, false, false, false, false, false, false, false, false, false, false, false, false, false, false, false, false, false, false, false, false] rfl rfl (by kernel_rfl) (fun _ _ _ h => h) (Or.inl ⟨by rfl, ?_⟩) hHeld ?_ ?_
              rotate_left
              · rintro w' ⟨s0, s1, s2, s3, s4, s5, s6⟩
                go_simp
                with_reducible rfl
              rotate_left
              · simp only [Act.put, List.setIfInBounds_toArray, List.set_cons_zero, List.set_cons_succ, i64_w, i32_w]
                rfl
              refine one_ (i := 1) (N := some 22) #[true, true, false, false, false, false, false, false, false, false, false, false, false, false, false, false, false, false, false, false, false, false, false, false, false, false] rfl rfl (by kernel_rfl) (by decide) (fun K hK => ?_)
              refine goes_ Try.func83 (by kernel_rfl) rfl #[.agg #[.int .i64 x0, .int .i64 x1, .int .i64 1, .slice A3 x3.length cq]] (by rfl) rfl rfl (by simp only [List.map_toArray, List.map_cons, List.map_nil]; rfl) ?_
              with_reducible refine (impl_isImage.calls x0 x1 1 A3 cq x3 true _ (Kd.C_below G3.out (below_drew (Below.refl _ _))) L3.out EV.out).mono ?_
              rintro e w6 ⟨rfl, hb6⟩
              refine ⟨_, rfl, ?_⟩
              have KS6 := Aside0.mk (blk_below (w := w5.drew) KS.out hb6)
              have HB6 := Aside0.mk (below_then (below_drew HBB.out) (below_drew HBB.out).size hb6)
              have hz06 := (bcell w5 hb6 hz0)
              have hz16 := (bcell w5 hb6 hz1)
              clear hb6
              refine hK.out _ _ ⟨((blk_cell KS6.out 0).trans rfl), ((blk_cell KS6.out 1).trans rfl), ((blk_cell KS6.out 2).trans rfl), ((blk_cell KS6.out 3).trans rfl), ((blk_cell (blk_below K12.out HB6.out) 0).trans rfl), hz06, hz16⟩ (fun hHeld => ?_)
              clear hK K
              refine norm_ (a' := ?_) ?_ ?_
              rotate_left
              · show Act.put _ (some 22) _ = _
                simp only [Act.put, List.setIfInBounds_toArray, List.set_cons_zero, List.set_cons_succ, i64_w, i32_w]
                rfl
              refine pure_ (i := 2) (N := some 23) (v := ?_) (a' := ?_) #[true, true, true, false, false, false, false, false, false, false, false, false, false, false, false, false, false, false, false, false, false, false, false, false, false, false] rfl rfl (by kernel_rfl) (fun _ _ _ h => h) (Or.inl ⟨by rfl, ?_⟩) ?_ ?_
              rotate_left
              · intro w'
                go_simp
                with_reducible rfl
              rotate_left
              · simp only [Act.put, List.setIfInBounds_toArray, List.set_cons_zero, List.set_cons_succ, i64_w, i32_w]
                rfl
              refine pure_ (i := 3) (N := some 24) (v := ?_) (a' := ?_) #[true, true, true, true, false, false, false, false, false, false, false, false, false, false, false, false, false, false, false, false, false, false, false, false, false, false] rfl rfl (by kernel_rfl) (fun _ _ _ h => h) (Or.inl ⟨by rfl, ?_⟩) ?_ ?_
              rotate_left
              · intro w'
                go_simp
                with_reducible rfl
              rotate_left
              · simp only [Act.put, List.setIfInBounds_toArray, List.set_cons_zero, List.set_cons_succ, i64_w, i32_w]
                rfl
              refine pure_ (i := 4) (N := some 25) (v := ?_) (a' := ?_) #[true, true, true, true, true, false, false, false, false, false, false, false, false, false, false, false, false, false, false, false, false, false, false, false, false, false] rfl rfl (by kernel_rfl) (fun _ _ _ h => h) (Or.inl ⟨by rfl, ?_⟩) ?_ ?_
              rotate_left
              · intro w'
                go_simp
                with_reducible rfl
              rotate_left
              · simp only [Act.put, List.setIfInBounds_toArray, List.set_cons_zero, List.set_cons_succ, i64_w, i32_w]
                rfl
              refine take_ (i := 5) (N := some 26) (v := ?_) (a' := ?_) #[true, true, true, true, true, true, false, false, false, false, false, false, false, false, false, false, false, false, false, false, false, false, false, false, false, false] rfl rfl (by kernel_rfl) (fun _ _ _ h => h) (Or.inl ⟨by rfl, ?_⟩) hHeld ?_ ?_
              rotate_left
              · rintro w' ⟨s0, s1, s2, s3, s4, s5, s6⟩
                go_simp
                with_reducible rfl
              rotate_left
              · simp only [Act.put, List.setIfInBounds_toArray, List.set_cons_zero, List.set_cons_succ, i64_w, i32_w]
                rfl
              refine pure_ (i := 6) (N := some 27) (v := ?_) (a' := ?_) #[true, true, true, true, true, true, true, false, false, false, false, false, false, false, false, false, false, false, false, false, false, false, false, false, false, false] rfl rfl (by kernel_rfl) (fun _ _ _ h => h) (Or.inl ⟨by rfl, ?_⟩) ?_ ?_
              rotate_left
              · intro w'
                go_simp
                with_reducible rfl
              rotate_left
              · simp only [Act.put, List.setIfInBounds_toArray, List.set_cons_zero, List.set_cons_succ, i64_w, i32_w]
                rfl
              refine pure_ (i := 7) (N := some 28) (v := ?_) (a' := ?_) #[true, true, true, true, true, true, true, true, false, false, false, false, false, false, false, false, false, false, false, false, false, false, false, false, false, false] rfl rfl (by kernel_rfl) (fun _ _ _ h => h) (Or.inl ⟨by rfl, ?_⟩) ?_ ?_
              rotate_left
              · intro w'
                go_simp
                with_reducible rfl
              rotate_left
              · simp only [Act.put, List.setIfInBounds_toArray, List.set_cons_zero, List.set_cons_succ, i64_w, i32_w]
                rfl
              refine pure_ (i := 8) (N := some 29) (v := ?_) (a' := ?_) #[true, true, true, true, true, true, true, true, true, false, false, false, false, false, false, false, false, false, false, false, false, false, false, false, false, false] rfl rfl (by kernel_rfl) (fun _ _ _ h => h) (Or.inl ⟨by rfl, ?_⟩) ?_ ?_
              rotate_left
              · intro w'
                go_simp
                with_reducible rfl
              rotate_left
              · simp only [Act.put, List.setIfInBounds_toArray, List.set_cons_zero, List.set_cons_succ, i64_w, i32_w]
                rfl
              refine pure_ (i := 9) (N := some 30) (v := ?_) (a' := ?_) #[true, true, true, true, true, true, true, true, true, true, false, false, false, false, false, false, false, false, false, false, false, false, false, false, false, false] rfl rfl (by kernel_rfl) (fun _ _ _ h => h) (Or.inl ⟨by rfl, ?_⟩) ?_ ?_
              rotate_left
              · intro w'
                go_simp
                with_reducible rfl
              rotate_left
              · simp only [Act.put, List.setIfInBounds_toArray, List.set_cons_zero, List.set_cons_succ, i64_w, i32_w]
                rfl
              refine take_ (i := 10) (N := some 31) (v := ?_) (a' := ?_) #[true, true, true, true, true, true, true, true, true, true, true, false, false, false, false, false, false, false, false, false, false, false, false, false, false, false] rfl rfl (by kernel_rfl) (fun _ _ _ h => h) (Or.inl ⟨by rfl, ?_⟩) hHeld ?_ ?_
              rotate_left
              · rintro w' ⟨s0, s1, s2, s3, s4, s5, s6⟩
                go_simp
                with_reducible rfl
              rotate_left
              · simp only [Act.put, List.setIfInBounds_toArray, List.set_cons_zero, List.set_cons_succ, i64_w, i32_w]
                rfl
              refine take_ (i := 11) (N := some 32) (v := ?_) (a' := ?_) #[true, true, true, true, true, true, true, true, true, true, true, true, false, false, false, false, false, false, false, false, false, false, false, false, false, false] rfl rfl (by kernel_rfl) (fun _ _ _ h => h) (Or.inl ⟨by rfl, ?_⟩) hHeld ?_ ?_
              rotate_left
              · rintro w' ⟨s0, s1, s2, s3, s4, s5, s6⟩
                go_simp
                with_reducible rfl
              rotate_left
              · simp only [Act.put, List.setIfInBounds_toArray, List.set_cons_zero, List.set_cons_succ, i64_w, i32_w]
                rfl
              refine pure_ (i := 12) (N := some 33) (v := ?_) (a' := ?_) #[true, true, true, true, true, true, true, true, true, true, true, true, true, false, false, false, false, false, false, false, false, false, false, false, false, false] rfl rfl (by kernel_rfl) (fun _ _ _ h => h) (Or.inl ⟨by rfl, ?_⟩) ?_ ?_
              rotate_left
              · intro w'
                go_simp
                with_reducible rfl
              rotate_left
              · simp only [Act.put, List.setIfInBounds_toArray, List.set_cons_zero, List.set_cons_succ, i64_w, i32_w]
                rfl
              refine pure_ (i := 13) (N := some 34) (v := ?_) (a' := ?_) #[true, true, true, true, true, true, true, true, true, true, true, true, true, true, false, false, false, false, false, false, false, false, false, false, false, false] rfl rfl (by kernel_rfl) (fun _ _ _ h => h) (Or.inl ⟨by rfl, ?_⟩) ?_ ?_
              rotate_left
              · intro w'
                go_simp
                with_reducible rfl
              rotate_left
              · simp only [Act.put, List.setIfInBounds_toArray, List.set_cons_zero, List.set_cons_succ, i64_w, i32_w]
                rfl
              refine take_ (i := 14) (N := some 35) (v := ?_) (a' := ?_) #[true, true, true, true, true, true, true, true, true, true, true, true, true, true, true, false, false, false, false, false, false, false, false, false, false, false] rfl rfl (by kernel_rfl) (fun _ _ _ h => h) (Or.inl ⟨by rfl, ?_⟩) hHeld ?_ ?_
              rotate_left
              · rintro w' ⟨s0, s1, s2, s3, s4, s5, s6⟩
                go_simp
                with_reducible rfl
              rotate_left
              · simp only [Act.put, List.setIfInBounds_toArray, List.set_cons_zero, List.set_cons_succ, i64_w, i32_w]
                rfl
              refine pure_ (i := 15) (N := some 36) (v := ?_) (a' := ?_) #[true, true, true, true, true, true, true, true, true, true, true, true, true, true, true, true, false, false, false, false, false, false, false, false, false, false] rfl rfl (by kernel_rfl) (fun _ _ _ h => h) (Or.inl ⟨by rfl, ?_⟩) ?_ ?_
              rotate_left
              · intro w'
                go_simp
                with_reducible rfl
              rotate_left
              · simp only [Act.put, List.setIfInBounds_toArray, List.set_cons_zero, List.set_cons_succ, i64_w, i32_w]
                rfl
              refine pure_ (i := 16) (N := some 37) (v := ?_) (a' := ?_) #[true, true, true, true, true, true, true, true, true, true, true, true, true, true, true, true, true, false, false, false, false, false, false, false, false, false] rfl rfl (by kernel_rfl) (fun _ _ _ h => h) (Or.inl ⟨by rfl, ?_⟩) ?_ ?_
              rotate_left
              · intro w'
                go_simp
                with_reducible rfl
              rotate_left
              · simp only [Act.put, List.setIfInBounds_toArray, List.set_cons_zero, List.set_cons_succ, i64_w, i32_w]
                rfl
              refine pure_ (i := 17) (N := some 38) (v := ?_) (a' := ?_) #[true, true, true, true, true, true, true, true, true, true, true, true, true, true, true, true, true, true, false, false, false, false, false, false, false, false] rfl rfl (by kernel_rfl) (fun _ _ _ h => h) (Or.inl ⟨by rfl, ?_⟩) ?_ ?_
              rotate_left
              · intro w'
                go_simp
                with_reducible rfl
              rotate_left
              · simp only [Act.put, List.setIfInBounds_toArray, List.set_cons_zero, List.set_cons_succ, i64_w, i32_w]
                rfl
              refine pure_ (i := 18) (N := some 39) (v := ?_) (a' := ?_) #[true, true, true, true, true, true, true, true, true, true, true, true, true, true, true, true, true, true, true, false, false, false, false, false, false, false] rfl rfl (by kernel_rfl) (fun _ _ _ h => h) (Or.inl ⟨by rfl, ?_⟩) ?_ ?_
              rotate_left
              · intro w'
                go_simp
                with_reducible rfl
              rotate_left
              · simp only [Act.put, List.setIfInBounds_toArray, List.set_cons_zero, List.set_cons_succ, i64_w, i32_w]
                rfl
              refine take_ (i := 19) (N := some 40) (v := ?_) (a' := ?_) #[true, true, true, true, true, true, true, true, true, true, true, true, true, true, true, true, true, true, true, true, false, false, false, false, false, false] rfl rfl (by kernel_rfl) (fun _ _ _ h => h) (Or.inl ⟨by rfl, ?_⟩) hHeld ?_ ?_
              rotate_left
              · rintro w' ⟨s0, s1, s2, s3, s4, s5, s6⟩
                go_simp
                with_reducible rfl
              rotate_left
              · simp only [Act.put, List.setIfInBounds_toArray, List.set_cons_zero, List.set_cons_succ, i64_w, i32_w]
                rfl
              refine take_ (i := 20) (N := some 41) (v := ?_) (a' := ?_) #[true, true, true, true, true, true, true, true, true, true, true, true, true, true, true, true, true, true, true, true, true, false, false, false, false, false] rfl rfl (by kernel_rfl) (fun _ _ _ h => h) (Or.inl ⟨by rfl, ?_⟩) hHeld ?_ ?_
              rotate_left
              · rintro w' ⟨s0, s1, s2, s3, s4, s5, s6⟩
                go_simp
                with_reducible rfl
              rotate_left
              · simp only [Act.put, List.setIfInBounds_toArray, List.set_cons_zero, List.set_cons_succ, i64_w, i32_w]
                rfl
              refine pure_ (i := 21) (N := some 42) (v := ?_) (a' := ?_) #[true, true, true, true, true, true, true, true, true, true, true, true, true, true, true, true, true, true, true, true, true, true, false, false, false, false] rfl rfl (by kernel_rfl) (fun _ _ _ h => h) (Or.inl ⟨by rfl, ?_⟩) ?_ ?_
              rotate_left
              · intro w'
                go_simp
                with_reducible rfl
              rotate_left
              · simp only [Act.put, List.setIfInBounds_toArray, List.set_cons_zero, List.set_cons_succ, i64_w, i32_w]
                rfl
              refine pure_ (i := 22) (N := some 43) (v := ?_) (a' := ?_) #[true, true, true, true, true, true, true, true, true, true, true, true, true, true, true, true, true, true, true, true, true, true, true, false, false, false] rfl rfl (by kernel_rfl) (fun _ _ _ h => h) (Or.inl ⟨by rfl, ?_⟩) ?_ ?_
              rotate_left
              · intro w'
                go_simp
                with_reducible rfl
              rotate_left
              · simp only [Act.put, List.setIfInBounds_toArray, List.set_cons_zero, List.set_cons_succ, i64_w, i32_w]
                rfl
              refine take_ (i := 23) (N := some 44) (v := ?_) (a' := ?_) #[true, true, true, true, true, true, true, true, true, true, true, true, true, true, true, true, true, true, true, true, true, true, true, true, false, false] rfl rfl (by kernel_rfl) (fun _ _ _ h => h) (Or.inl ⟨by rfl, ?_⟩) hHeld ?_ ?_
              rotate_left
              · rintro w' ⟨s0, s1, s2, s3, s4, s5, s6⟩
                go_simp
                with_reducible rfl
              rotate_left
              · simp only [Act.put, List.setIfInBounds_toArray, List.set_cons_zero, List.set_cons_succ, i64_w, i32_w]
                rfl
              refine pure_ (i := 24) (N := some 45) (v := ?_) (a' := ?_) #[true, true, true, true, true, true, true, true, true, true, true, true, true, true, true, true, true, true, true, true, true, true, true, true, true, false] rfl rfl (by kernel_rfl) (fun _ _ _ h => h) (Or.inl ⟨by rfl, ?_⟩) ?_ ?_
              rotate_left
              · intro w'
                go_simp
                with_reducible rfl
              rotate_left
              · simp only [Act.put, List.setIfInBounds_toArray, List.set_cons_zero, List.set_cons_succ, i64_w, i32_w]
                rfl
              refine pure_ (i := 25) (N := some 46) (v := ?_) (a' := ?_) #[true, true, true, true, true, true, true, true, true, true, true, true, true, true, true, true, true, true, true, true, true, true, true, true, true, true] rfl rfl (by kernel_rfl) (fun _ _ _ h => h) (Or.inl ⟨by rfl, ?_⟩) ?_ ?_
              rotate_left
              · intro w'
                go_simp
                with_reducible rfl
              rotate_left
              · simp only [Act.put, List.setIfInBounds_toArray, List.set_cons_zero, List.set_cons_succ, i64_w, i32_w]
                rfl
              refine done_ (by kernel_rfl) ?_
              go_wp2
              go_roundw
              case rel => exact ⟨i + 1, by go_num, by omega, ⟨fun q hq => by
                rw [List.take_succ_eq_append_getElem hlt, List.mem_append, List.mem_singleton] at hq
                rcases hq with hq | hq
                · rw [← HZ0.out, ← HZ1.out]; exact HT.out q hq
                · rw [hq, ← E1.out, ← HZ0.out, ← HZ1.out, HPB.out]
                  simp [c1], HB6.out⟩⟩
              case measure => simp [intOf]; omega
            · have dqc4 : decide (x1 = z1) = false := decide_eq_false c4
              have dnc4 : (x1 != z1) = true := by simpa using c4
              have dec4 : (x1 == z1) = false := by simpa using c4
              refine start_ (n := 26) (S := fun w' => w'.cell? ⟨gs, 0, none⟩ = some (.int .i64 x0) ∧ w'.cell? ⟨gs, 1, none⟩ = some (.int .i64 x1) ∧ w'.cell? ⟨gs, 2, none⟩ = some (.int .i64 1) ∧ w'.cell? ⟨gs, 3, none⟩ = some (.slice A3 x3.length cq) ∧ w'.cell? ⟨g1, 0, none⟩ = some (.slice (some ad) l.length c0) ∧ w'.cell? ad = some (.int .i64 x0) ∧ w'.cell? ⟨ad.block, ad.off + 1, none⟩ = some (.int .i64 z1)) (ds := []) #[false, false, false, false, false, false, false, false, false, false, false, false, false, false, false, false, false, false, false, false, false, false, false, false, false, false] (by kernel_rfl) rfl rfl ⟨((blk_cell (blk_drew KS.out) 0).trans rfl), ((blk_cell (blk_drew KS.out) 1).trans rfl), ((blk_cell (blk_drew KS.out) 2).trans rfl), ((blk_cell (blk_drew KS.out) 3).trans rfl), ((blk_cell (blk_drew (blk_below K12.out HBB.out)) 0).trans rfl), hz0, hz1⟩ (fun hHeld => ?_)
              refine take_ (i := 0) (N := some 21) (v := ?_) (a' := ?_) #[true, false, false, false, false, false, false, false, false, false, false, false, false, false, false, false, false, false, false, false, false, false, false, false, false, false] rfl rfl (by kernel_rfl) (fun _ _ _ h => h) (Or.inl ⟨by rfl, ?_⟩) hHeld ?_ ?_
              rotate_left
              · rintro w' ⟨s0, s1, s2, s3, s4, s5, s6⟩
                go_simp
                with_reducible rfl
              rotate_left
              · simp only [Act.put, List.setIfInBounds_toArray, List.set_cons_zero, List.set_cons_succ, i64_w, i32_w]
                rfl
              refine one_ (i := 1) (N := some 22) #[true, true, false, false, false, false, false, false, false, false, false, false, false, false, false, false, false, false, false, false, false, false, false, false, false, false] rfl rfl (by kernel_rfl) (by decide) (fun K hK => ?_)
              refine goes_ Try.func83 (by kernel_rfl) rfl #[.agg #[.int .i64 x0, .int .i64 x1, .int .i64 1, .slice A3 x3.length cq]] (by rfl) rfl rfl (by simp only [List.map_toArray, List.map_cons, List.map_nil]; rfl) ?_
              with_reducible refine (impl_isImage.calls x0 x1 1 A3 cq x3 true _ (Kd.C_below G3.out (below_drew (Below.refl _ _))) L3.out EV.out).mono ?_
              rintro e w6 ⟨rfl, hb6⟩
              refine ⟨_, rfl, ?_⟩
              have KS6 := Aside0.mk (blk_below (w := w5.drew) KS.out hb6)
              have HB6 := Aside0.mk (below_then (below_drew HBB.out) (below_drew HBB.out).size hb6)
              have hz06 := (bcell w5 hb6 hz0)
              have hz16 := (bcell w5 hb6 hz1)
              clear hb6
              refine hK.out _ _ ⟨((blk_cell KS6.out 0).trans rfl), ((blk_cell KS6.out 1).trans rfl), ((blk_cell KS6.out 2).trans rfl), ((blk_cell KS6.out 3).trans rfl), ((blk_cell (blk_below K12.out HB6.out) 0).trans rfl), hz06, hz16⟩ (fun hHeld => ?_)
              clear hK K
              refine norm_ (a' := ?_) ?_ ?_
              rotate_left
              · show Act.put _ (some 22) _ = _
                simp only [Act.put, List.setIfInBounds_toArray, List.set_cons_zero, List.set_cons_succ, i64_w, i32_w]
                rfl
              refine pure_ (i := 2) (N := some 23) (v := ?_) (a' := ?_) #[true, true, true, false, false, false, false, false, false, false, false, false, false, false, false, false, false, false, false, false, false, false, false, false, false, false] rfl rfl (by kernel_rfl) (fun _ _ _ h => h) (Or.inl ⟨by rfl, ?_⟩) ?_ ?_
              rotate_left
              · intro w'
                go_simp
                with_reducible rfl
              rotate_left
              · simp only [Act.put, List.setIfInBounds_toArray, List.set_cons_zero, List.set_cons_succ, i64_w, i32_w]
                rfl
              refine pure_ (i := 3) (N := some 24) (v := ?_) (a' := ?_) #[true, true, true, true, false, false, false, false, false, false, false, false, false, false, false, false, false, false, false, false, false, false, false, false, false, false] rfl rfl (by kernel_rfl) (fun _ _ _ h => h) (Or.inl ⟨by rfl, ?_⟩) ?_ ?_
              rotate_left
              · intro w'
                go_simp
                with_reducible rfl
              rotate_left
              · simp only [Act.put, List.setIfInBounds_toArray, List.set_cons_zero, List.set_cons_succ, i64_w, i32_w]
                rfl
              refine pure_ (i := 4) (N := some 25) (v := ?_) (a' := ?_) #[true, true, true, true, true, false, false, false, false, false, false, false, false, false, false, false, false, false, false, false, false, false, false, false, false, false] rfl rfl (by kernel_rfl) (fun _ _ _ h => h) (Or.inl ⟨by rfl, ?_⟩) ?_ ?_
              rotate_left
              · intro w'
                go_simp
                with_reducible rfl
              rotate_left
              · simp only [Act.put, List.setIfInBounds_toArray, List.set_cons_zero, List.set_cons_succ, i64_w, i32_w]
                rfl
              refine take_ (i := 5) (N := some 26) (v := ?_) (a' := ?_) #[true, true, true, true, true, true, false, false, false, false, false, false, false, false, false, false, false, false, false, false, false, false, false, false, false, false] rfl rfl (by kernel_rfl) (fun _ _ _ h => h) (Or.inl ⟨by rfl, ?_⟩) hHeld ?_ ?_
              rotate_left
              · rintro w' ⟨s0, s1, s2, s3, s4, s5, s6⟩
                go_simp
                with_reducible rfl
              rotate_left
              · simp only [Act.put, List.setIfInBounds_toArray, List.set_cons_zero, List.set_cons_succ, i64_w, i32_w]
                rfl
              refine pure_ (i := 6) (N := some 27) (v := ?_) (a' := ?_) #[true, true, true, true, true, true, true, false, false, false, false, false, false, false, false, false, false, false, false, false, false, false, false, false, false, false] rfl rfl (by kernel_rfl) (fun _ _ _ h => h) (Or.inl ⟨by rfl, ?_⟩) ?_ ?_
              rotate_left
              · intro w'
                go_simp
                with_reducible rfl
              rotate_left
              · simp only [Act.put, List.setIfInBounds_toArray, List.set_cons_zero, List.set_cons_succ, i64_w, i32_w]
                rfl
              refine pure_ (i := 7) (N := some 28) (v := ?_) (a' := ?_) #[true, true, true, true, true, true, true, true, false, false, false, false, false, false, false, false, false, false, false, false, false, false, false, false, false, false] rfl rfl (by kernel_rfl) (fun _ _ _ h => h) (Or.inl ⟨by rfl, ?_⟩) ?_ ?_
              rotate_left
              · intro w'
                go_simp
                with_reducible rfl
              rotate_left
              · simp only [Act.put, List.setIfInBounds_toArray, List.set_cons_zero, List.set_cons_succ, i64_w, i32_w]
                rfl
              refine pure_ (i := 8) (N := some 29) (v := ?_) (a' := ?_) #[true, true, true, true, true, true, true, true, true, false, false, false, false, false, false, false, false, false, false, false, false, false, false, false, false, false] rfl rfl (by kernel_rfl) (fun _ _ _ h => h) (Or.inl ⟨by rfl, ?_⟩) ?_ ?_
              rotate_left
              · intro w'
                go_simp
                with_reducible rfl
              rotate_left
              · simp only [Act.put, List.setIfInBounds_toArray, List.set_cons_zero, List.set_cons_succ, i64_w, i32_w]
                rfl
              refine pure_ (i := 9) (N := some 30) (v := ?_) (a' := ?_) #[true, true, true, true, true, true, true, true, true, true, false, false, false, false, false, false, false, false, false, false, false, false, false, false, false, false] rfl rfl (by kernel_rfl) (fun _ _ _ h => h) (Or.inl ⟨by rfl, ?_⟩) ?_ ?_
              rotate_left
              · intro w'
                go_simp
                with_reducible rfl
              rotate_left
              · simp only [Act.put, List.setIfInBounds_toArray, List.set_cons_zero, List.set_cons_succ, i64_w, i32_w]
                rfl
              refine take_ (i := 10) (N := some 31) (v := ?_) (a' := ?_) #[true, true, true, true, true, true, true, true, true, true, true, false, false, false, false, false, false, false, false, false, false, false, false, false, false, false] rfl rfl (by kernel_rfl) (fun _ _ _ h => h) (Or.inl ⟨by rfl, ?_⟩) hHeld ?_ ?_
              rotate_left
              · rintro w' ⟨s0, s1, s2, s3, s4, s5, s6⟩
                go_simp
                with_reducible rfl
              rotate_left
              · simp only [Act.put, List.setIfInBounds_toArray, List.set_cons_zero, List.set_cons_succ, i64_w, i32_w]
                rfl
              refine take_ (i := 11) (N := some 32) (v := ?_) (a' := ?_) #[true, true, true, true, true, true, true, true, true, true, true, true, false, false, false, false, false, false, false, false, false, false, false, false, false, false] rfl rfl (by kernel_rfl) (fun _ _ _ h => h) (Or.inl ⟨by rfl, ?_⟩) hHeld ?_ ?_
              rotate_left
              · rintro w' ⟨s0, s1, s2, s3, s4, s5, s6⟩
                go_simp
                with_reducible rfl
              rotate_left
              · simp only [Act.put, List.setIfInBounds_toArray, List.set_cons_zero, List.set_cons_succ, i64_w, i32_w]
                rfl
              refine pure_ (i := 12) (N := some 33) (v := ?_) (a' := ?_) #[true, true, true, true, true, true, true, true, true, true, true, true, true, false, false, false, false, false, false, false, false, false, false, false, false, false] rfl rfl (by kernel_rfl) (fun _ _ _ h => h) (Or.inl ⟨by rfl, ?_⟩) ?_ ?_
              rotate_left
              · intro w'
                go_simp
                with_reducible rfl
              rotate_left
              · simp only [Act.put, List.setIfInBounds_toArray, List.set_cons_zero, List.set_cons_succ, i64_w, i32_w]
                rfl
              refine pure_ (i := 13) (N := some 34) (v := ?_) (a' := ?_) #[true, true, true, true, true, true, true, true, true, true, true, true, true, true, false, false, false, false, false, false, false, false, false, false, false, false] rfl rfl (by kernel_rfl) (fun _ _ _ h => h) (Or.inl ⟨by rfl, ?_⟩) ?_ ?_
              rotate_left
              · intro w'
                go_simp
                with_reducible rfl
              rotate_left
              · simp only [Act.put, List.setIfInBounds_toArray, List.set_cons_zero, List.set_cons_succ, i64_w, i32_w]
                rfl
              refine take_ (i := 14) (N := some 35) (v := ?_) (a' := ?_) #[true, true, true, true, true, true, true, true, true, true, true, true, true, true, true, false, false, false, false, false, false, false, false, false, false, false] rfl rfl (by kernel_rfl) (fun _ _ _ h => h) (Or.inl ⟨by rfl, ?_⟩) hHeld ?_ ?_
              rotate_left
              · rintro w' ⟨s0, s1, s2, s3, s4, s5, s6⟩
                go_simp
                with_reducible rfl
              rotate_left
              · simp only [Act.put, List.setIfInBounds_toArray, List.set_cons_zero, List.set_cons_succ, i64_w, i32_w]
                rfl
              refine pure_ (i := 15) (N := some 36) (v := ?_) (a' := ?_) #[true, true, true, true, true, true, true, true, true, true, true, true, true, true, true, true, false, false, false, false, false, false, false, false, false, false] rfl rfl (by kernel_rfl) (fun _ _ _ h => h) (Or.inl ⟨by rfl, ?_⟩) ?_ ?_
              rotate_left
              · intro w'
                go_simp
                with_reducible rfl
              rotate_left
              · simp only [Act.put, List.setIfInBounds_toArray, List.set_cons_zero, List.set_cons_succ, i64_w, i32_w]
                rfl
              refine pure_ (i := 16) (N := some 37) (v := ?_) (a' := ?_) #[true, true, true, true, true, true, true, true, true, true, true, true, true, true, true, true, true, false, false, false, false, false, false, false, false, false] rfl rfl (by kernel_rfl) (fun _ _ _ h => h) (Or.inl ⟨by rfl, ?_⟩) ?_ ?_
              rotate_left
              · intro w'
                go_simp
                with_reducible rfl
              rotate_left
              · simp only [Act.put, List.setIfInBounds_toArray, List.set_cons_zero, List.set_cons_succ, i64_w, i32_w]
                rfl
              refine pure_ (i := 17) (N := some 38) (v := ?_) (a' := ?_) #[true, true, true, true, true, true, true, true, true, true, true, true, true, true, true, true, true, true, false, false, false, false, false, false, false, false] rfl rfl (by kernel_rfl) (fun _ _ _ h => h) (Or.inl ⟨by rfl, ?_⟩) ?_ ?_
              rotate_left
              · intro w'
                go_simp
                with_reducible rfl
              rotate_left
              · simp only [Act.put, List.setIfInBounds_toArray, List.set_cons_zero, List.set_cons_succ, i64_w, i32_w]
                rfl
              refine pure_ (i := 18) (N := some 39) (v := ?_) (a' := ?_) #[true, true, true, true, true, true, true, true, true, true, true, true, true, true, true, true, true, true, true, false, false, false, false, false, false, false] rfl rfl (by kernel_rfl) (fun _ _ _ h => h) (Or.inl ⟨by rfl, ?_⟩) ?_ ?_
              rotate_left
              · intro w'
                go_simp
                with_reducible rfl
              rotate_left
              · simp only [Act.put, List.setIfInBounds_toArray, List.set_cons_zero, List.set_cons_succ, i64_w, i32_w]
                rfl
              refine take_ (i := 19) (N := some 40) (v := ?_) (a' := ?_) #[true, true, true, true, true, true, true, true, true, true, true, true, true, true, true, true, true, true, true, true, false, false, false, false, false, false] rfl rfl (by kernel_rfl) (fun _ _ _ h => h) (Or.inl ⟨by rfl, ?_⟩) hHeld ?_ ?_
              rotate_left
              · rintro w' ⟨s0, s1, s2, s3, s4, s5, s6⟩
                go_simp
                with_reducible rfl
              rotate_left
              · simp only [Act.put, List.setIfInBounds_toArray, List.set_cons_zero, List.set_cons_succ, i64_w, i32_w]
                rfl
              refine take_ (i := 20) (N := some 41) (v := ?_) (a' := ?_) #[true, true, true, true, true, true, true, true, true, true, true, true, true, true, true, true, true, true, true, true, true, false, false, false, false, false] rfl rfl (by kernel_rfl) (fun _ _ _ h => h) (Or.inl ⟨by rfl, ?_⟩) hHeld ?_ ?_
              rotate_left
              · rintro w' ⟨s0, s1, s2, s3, s4, s5, s6⟩
                go_simp
                with_reducible rfl
              rotate_left
              · simp only [Act.put, List.setIfInBounds_toArray, List.set_cons_zero, List.set_cons_succ, i64_w, i32_w]
                rfl
              refine pure_ (i := 21) (N := some 42) (v := ?_) (a' := ?_) #[true, true, true, true, true, true, true, true, true, true, true, true, true, true, true, true, true, true, true, true, true, true, false, false, false, false] rfl rfl (by kernel_rfl) (fun _ _ _ h => h) (Or.inl ⟨by rfl, ?_⟩) ?_ ?_
              rotate_left
              · intro w'
                go_simp
                with_reducible rfl
              rotate_left
              · simp only [Act.put, List.setIfInBounds_toArray, List.set_cons_zero, List.set_cons_succ, i64_w, i32_w]
                rfl
              refine pure_ (i := 22) (N := some 43) (v := ?_) (a' := ?_) #[true, true, true, true, true, true, true, true, true, true, true, true, true, true, true, true, true, true, true, true, true, true, true, false, false, false] rfl rfl (by kernel_rfl) (fun _ _ _ h => h) (Or.inl ⟨by rfl, ?_⟩) ?_ ?_
              rotate_left
              · intro w'
                go_simp
                with_reducible rfl
              rotate_left
              · simp only [Act.put, List.setIfInBounds_toArray, List.set_cons_zero, List.set_cons_succ, i64_w, i32_w]
                rfl
              refine take_ (i := 23) (N := some 44) (v := ?_) (a' := ?_) #[true, true, true, true, true, true, true, true, true, true, true, true, true, true, true, true, true, true, true, true, true, true, true, true, false, false] rfl rfl (by kernel_rfl) (fun _ _ _ h => h) (Or.inl ⟨by rfl, ?_⟩) hHeld ?_ ?_
              rotate_left
              · rintro w' ⟨s0, s1, s2, s3, s4, s5, s6⟩
                go_simp
                with_reducible rfl
              rotate_left
              · simp only [Act.put, List.setIfInBounds_toArray, List.set_cons_zero, List.set_cons_succ, i64_w, i32_w]
                rfl
              refine pure_ (i := 24) (N := some 45) (v := ?_) (a' := ?_) #[true, true, true, true, true, true, true, true, true, true, true, true, true, true, true, true, true, true, true, true, true, true, true, true, true, false] rfl rfl (by kernel_rfl) (fun _ _ _ h => h) (Or.inl ⟨by rfl, ?_⟩) ?_ ?_
              rotate_left
              · intro w'
                go_simp
                with_reducible rfl
              rotate_left
              · simp only [Act.put, List.setIfInBounds_toArray, List.set_cons_zero, List.set_cons_succ, i64_w, i32_w]
                rfl
              refine pure_ (i := 25) (N := some 46) (v := ?_) (a' := ?_) #[true, true, true, true, true, true, true, true, true, true, true, true, true, true, true, true, true, true, true, true, true, true, true, true, true, true] rfl rfl (by kernel_rfl) (fun _ _ _ h => h) (Or.inl ⟨by rfl, ?_⟩) ?_ ?_
              rotate_left
              · intro w'
                go_simp
                with_reducible rfl
              rotate_left
              · simp only [Act.put, List.setIfInBounds_toArray, List.set_cons_zero, List.set_cons_succ, i64_w, i32_w]
                rfl
              refine done_ (by kernel_rfl) ?_
              have K26 := Aside0.mk (blk_below K2.out HB6.out)
              have HBW := Aside0.mk (below_then HB2.out HB2.out.size HB6.out)
              have fc0 : w6.cell? ⟨g2, 0, none⟩ = some (.int .i64 0) := (blk_cell K26.out 0).trans rfl
              have fc1 : w6.cell? ⟨g2, 1, none⟩ = some (.int .i64 0) := (blk_cell K26.out 1).trans rfl
              have fc2 : w6.cell? ⟨g2, 2, none⟩ = some (.int .i64 0) := (blk_cell K26.out 2).trans rfl
              have fc3 : w6.cell? ⟨g2, 3, none⟩ = some (.slice none 0 0) := (blk_cell K26.out 3).trans rfl
              have yc0 := blk_frozen K26.out 0
              have yc1 := blk_frozen K26.out 1
              have yc2 := blk_frozen K26.out 2
              have yc3 := blk_frozen K26.out 3
              obtain ⟨rfl, rfl, rfl, rfl, rfl⟩ := merge_no H.out (merge_bad hlt (by rw [← HZ0.out, ← HZ1.out, HPB.out]; simp [c4]))
              go_wp2
              refine bodyPost_ret (results_ct rfl _ _ g2 27 #[.int .i64 0, .int .i64 0, .int .i64 0, .slice none 0 0] (0, 0) _ rfl (by
                refine blk_put (cs := #[.int .i64 0, .int .i64 0, .int .i64 0, .slice none 0 0]) ?_ 3 _ rfl
                refine blk_put (cs := #[.int .i64 0, .int .i64 0, .int .i64 0, .slice none 0 0]) ?_ 2 _ rfl
                refine blk_put (cs := #[.int .i64 0, .int .i64 0, .int .i64 0, .slice none 0 0]) ?_ 1 _ rfl
                refine blk_put (cs := #[.int .i64 0, .int .i64 0, .int .i64 0, .slice none 0 0]) ?_ 0 _ rfl
                exact K26.out
                ) huo rfl (by kernel_rfl)) rfl ?_
              have G2 := Gg2.out
              exact ⟨_, rfl, Kd.R_nil _ _ _ _ _, below_set (below_set (below_set (below_set HBW.out (by omega)) (by omega)) (by omega)) (by omega)⟩
          · have dqc3 : decide (x0 = z0) = false := decide_eq_false c3
            have dnc3 : (x0 != z0) = true := by simpa using c3
            have dec3 : (x0 == z0) = false := by simpa using c3
            refine start_ (n := 26) (S := fun w' => w'.cell? ⟨gs, 0, none⟩ = some (.int .i64 x0) ∧ w'.cell? ⟨gs, 1, none⟩ = some (.int .i64 x1) ∧ w'.cell? ⟨gs, 2, none⟩ = some (.int .i64 1) ∧ w'.cell? ⟨gs, 3, none⟩ = some (.slice A3 x3.length cq) ∧ w'.cell? ⟨g1, 0, none⟩ = some (.slice (some ad) l.length c0) ∧ w'.cell? ad = some (.int .i64 z0) ∧ w'.cell? ⟨ad.block, ad.off + 1, none⟩ = some (.int .i64 z1)) (ds := []) #[false, false, false, false, false, false, false, false, false, false, false, false, false, false, false, false, false, false, false, false, false, false, false, false, false, false] (by kernel_rfl) rfl rfl ⟨((blk_cell (blk_drew KS.out) 0).trans rfl), ((blk_cell (blk_drew KS.out) 1).trans rfl), ((blk_cell (blk_drew KS.out) 2).trans rfl), ((blk_cell (blk_drew KS.out) 3).trans rfl), ((blk_cell (blk_drew (blk_below K12.out HBB.out)) 0).trans rfl), hz0, hz1⟩ (fun hHeld => ?_)
            refine take_ (i := 0) (N := some 21) (v := ?_) (a' := ?_) #[true, false, false, false, false, false, false, false, false, false, false, false, false, false, false, false, false, false, false, false, false, false, false, false, false, false] rfl rfl (by kernel_rfl) (fun _ _ _ h => h) (Or.inl ⟨by rfl, ?_⟩) hHeld ?_ ?_
            rotate_left
            · rintro w' ⟨s0, s1, s2, s3, s4, s5, s6⟩
              go_simp
              with_reducible rfl
            rotate_left
            · simp only [Act.put, List.setIfInBounds_toArray, List.set_cons_zero, List.set_cons_succ, i64_w, i32_w]
              rfl
            refine one_ (i := 1) (N := some 22) #[true, true, false, false, false, false, false, false, false, false, false, false, false, false, false, false, false, false, false, false, false, false, false, false, false, false] rfl rfl (by kernel_rfl) (by decide) (fun K hK => ?_)
            refine goes_ Try.func83 (by kernel_rfl) rfl #[.agg #[.int .i64 x0, .int .i64 x1, .int .i64 1, .slice A3 x3.length cq]] (by rfl) rfl rfl (by simp only [List.map_toArray, List.map_cons, List.map_nil]; rfl) ?_
            with_reducible refine (impl_isImage.calls x0 x1 1 A3 cq x3 true _ (Kd.C_below G3.out (below_drew (Below.refl _ _))) L3.out EV.out).mono ?_
            rintro e w6 ⟨rfl, hb6⟩
            refine ⟨_, rfl, ?_⟩
            have KS6 := Aside0.mk (blk_below (w := w5.drew) KS.out hb6)
            have HB6 := Aside0.mk (below_then (below_drew HBB.out) (below_drew HBB.out).size hb6)
            have hz06 := (bcell w5 hb6 hz0)
            have hz16 := (bcell w5 hb6 hz1)
            clear hb6
            refine hK.out _ _ ⟨((blk_cell KS6.out 0).trans rfl), ((blk_cell KS6.out 1).trans rfl), ((blk_cell KS6.out 2).trans rfl), ((blk_cell KS6.out 3).trans rfl), ((blk_cell (blk_below K12.out HB6.out) 0).trans rfl), hz06, hz16⟩ (fun hHeld => ?_)
            clear hK K
            refine norm_ (a' := ?_) ?_ ?_
            rotate_left
            · show Act.put _ (some 22) _ = _
              simp only [Act.put, List.setIfInBounds_toArray, List.set_cons_zero, List.set_cons_succ, i64_w, i32_w]
              rfl
            refine pure_ (i := 2) (N := some 23) (v := ?_) (a' := ?_) #[true, true, true, false, false, false, false, false, false, false, false, false, false, false, false, false, false, false, false, false, false, false, false, false, false, false] rfl rfl (by kernel_rfl) (fun _ _ _ h => h) (Or.inl ⟨by rfl, ?_⟩) ?_ ?_
            rotate_left
            · intro w'
              go_simp
              with_reducible rfl
            rotate_left
            · simp only [Act.put, List.setIfInBounds_toArray, List.set_cons_zero, List.set_cons_succ, i64_w, i32_w]
              rfl
            refine pure_ (i := 3) (N := some 24) (v := ?_) (a' := ?_) #[true, true, true, true, false, false, false, false, false, false, false, false, false, false, false, false, false, false, false, false, false, false, false, false, false, false] rfl rfl (by kernel_rfl) (fun _ _ _ h => h) (Or.inl ⟨by rfl, ?_⟩) ?_ ?_
            rotate_left
            · intro w'
              go_simp
              with_reducible rfl
            rotate_left
            · simp only [Act.put, List.setIfInBounds_toArray, List.set_cons_zero, List.set_cons_succ, i64_w, i32_w]
              rfl
            refine pure_ (i := 4) (N := some 25) (v := ?_) (a' := ?_) #[true, true, true, true, true, false, false, false, false, false, false, false, false, false, false, false, false, false, false, false, false, false, false, false, false, false] rfl rfl (by kernel_rfl) (fun _ _ _ h => h) (Or.inl ⟨by rfl, ?_⟩) ?_ ?_
            rotate_left
            · intro w'
              go_simp
              with_reducible rfl
            rotate_left
            · simp only [Act.put, List.setIfInBounds_toArray, List.set_cons_zero, List.set_cons_succ, i64_w, i32_w]
              rfl
            refine take_ (i := 5) (N := some 26) (v := ?_) (a' := ?_) #[true, true, true, true, true, true, false, false, false, false, false, false, false, false, false, false, false, false, false, false, false, false, false, false, false, false] rfl rfl (by kernel_rfl) (fun _ _ _ h => h) (Or.inl ⟨by rfl, ?_⟩) hHeld ?_ ?_
            rotate_left
            · rintro w' ⟨s0, s1, s2, s3, s4, s5, s6⟩
              go_simp
              with_reducible rfl
            rotate_left
            · simp only [Act.put, List.setIfInBounds_toArray, List.set_cons_zero, List.set_cons_succ, i64_w, i32_w]
              rfl
            refine pure_ (i := 6) (N := some 27) (v := ?_) (a' := ?_) #[true, true, true, true, true, true, true, false, false, false, false, false, false, false, false, false, false, false, false, false, false, false, false, false, false, false] rfl rfl (by kernel_rfl) (fun _ _ _ h => h) (Or.inl ⟨by rfl, ?_⟩) ?_ ?_
            rotate_left
            · intro w'
              go_simp
              with_reducible rfl
            rotate_left
            · simp only [Act.put, List.setIfInBounds_toArray, List.set_cons_zero, List.set_cons_succ, i64_w, i32_w]
              rfl
            refine pure_ (i := 7) (N := some 28) (v := ?_) (a' := ?_) #[true, true, true, true, true, true, true, true, false, false, false, false, false, false, false, false, false, false, false, false, false, false, false, false, false, false] rfl rfl (by kernel_rfl) (fun _ _ _ h => h) (Or.inl ⟨by rfl, ?_⟩) ?_ ?_
            rotate_left
            · intro w'
              go_simp
              with_reducible rfl
            rotate_left
            · simp only [Act.put, List.setIfInBounds_toArray, List.set_cons_zero, List.set_cons_succ, i64_w, i32_w]
              rfl
            refine pure_ (i := 8) (N := some 29) (v := ?_) (a' := ?_) #[true, true, true, true, true, true, true, true, true, false, false, false, false, false, false, false, false, false, false, false, false, false, false, false, false, false] rfl rfl (by kernel_rfl) (fun _ _ _ h => h) (Or.inl ⟨by rfl, ?_⟩) ?_ ?_
            rotate_left
            · intro w'
              go_simp
              with_reducible rfl
            rotate_left
            · simp only [Act.put, List.setIfInBounds_toArray, List.set_cons_zero, List.set_cons_succ, i64_w, i32_w]
              rfl
            refine pure_ (i := 9) (N := some 30) (v := ?_) (a' := ?_) #[true, true, true, true, true, true, true, true, true, true, false, false, false, false, false, false, false, false, false, false, false, false, false, false, false, false] rfl rfl (by kernel_rfl) (fun _ _ _ h => h) (Or.inl ⟨by rfl, ?_⟩) ?_ ?_
            rotate_left
            · intro w'
              go_simp
              with_reducible rfl
            rotate_left
            · simp only [Act.put, List.setIfInBounds_toArray, List.set_cons_zero, List.set_cons_succ, i64_w, i32_w]
              rfl
            refine take_ (i := 10) (N := some 31) (v := ?_) (a' := ?_) #[true, true, true, true, true, true, true, true, true, true, true, false, false, false, false, false, false, false, false, false, false, false, false, false, false, false] rfl rfl (by kernel_rfl) (fun _ _ _ h => h) (Or.inl ⟨by rfl, ?_⟩) hHeld ?_ ?_
            rotate_left
            · rintro w' ⟨s0, s1, s2, s3, s4, s5, s6⟩
              go_simp
              with_reducible rfl
            rotate_left
            · simp only [Act.put, List.setIfInBounds_toArray, List.set_cons_zero, List.set_cons_succ, i64_w, i32_w]
              rfl
            refine take_ (i := 11) (N := some 32) (v := ?_) (a' := ?_) #[true, true, true, true, true, true, true, true, true, true, true, true, false, false, false, false, false, false, false, false, false, false, false, false, false, false] rfl rfl (by kernel_rfl) (fun _ _ _ h => h) (Or.inl ⟨by rfl, ?_⟩) hHeld ?_ ?_
            rotate_left
            · rintro w' ⟨s0, s1, s2, s3, s4, s5, s6⟩
              go_simp
              with_reducible rfl
            rotate_left
            · simp only [Act.put, List.setIfInBounds_toArray, List.set_cons_zero, List.set_cons_succ, i64_w, i32_w]
              rfl
            refine pure_ (i := 12) (N := some 33) (v := ?_) (a' := ?_) #[true, true, true, true, true, true, true, true, true, true, true, true, true, false, false, false, false, false, false, false, false, false, false, false, false, false] rfl rfl (by kernel_rfl) (fun _ _ _ h => h) (Or.inl ⟨by rfl, ?_⟩) ?_ ?_
            rotate_left
            · intro w'
              go_simp
              with_reducible rfl
            rotate_left
            · simp only [Act.put, List.setIfInBounds_toArray, List.set_cons_zero, List.set_cons_succ, i64_w, i32_w]
              rfl
            refine pure_ (i := 13) (N := some 34) (v := ?_) (a' := ?_) #[true, true, true, true, true, true, true, true, true, true, true, true, true, true, false, false, false, false, false, false, false, false, false, false, false, false] rfl rfl (by kernel_rfl) (fun _ _ _ h => h) (Or.inl ⟨by rfl, ?_⟩) ?_ ?_
            rotate_left
            · intro w'
              go_simp
              with_reducible rfl
            rotate_left
            · simp only [Act.put, List.setIfInBounds_toArray, List.set_cons_zero, List.set_cons_succ, i64_w, i32_w]
              rfl
            refine take_ (i := 14) (N := some 35) (v := ?_) (a' := ?_) #[true, true, true, true, true, true, true, true, true, true, true, true, true, true, true, false, false, false, false, false, false, false, false, false, false, false] rfl rfl (by kernel_rfl) (fun _ _ _ h => h) (Or.inl ⟨by rfl, ?_⟩) hHeld ?_ ?_
            rotate_left
            · rintro w' ⟨s0, s1, s2, s3, s4, s5, s6⟩
              go_simp
              with_reducible rfl
            rotate_left
            · simp only [Act.put, List.setIfInBounds_toArray, List.set_cons_zero, List.set_cons_succ, i64_w, i32_w]
              rfl
            refine pure_ (i := 15) (N := some 36) (v := ?_) (a' := ?_) #[true, true, true, true, true, true, true, true, true, true, true, true, true, true, true, true, false, false, false, false, false, false, false, false, false, false] rfl rfl (by kernel_rfl) (fun _ _ _ h => h) (Or.inl ⟨by rfl, ?_⟩) ?_ ?_
            rotate_left
            · intro w'
              go_simp
              with_reducible rfl
            rotate_left
            · simp only [Act.put, List.setIfInBounds_toArray, List.set_cons_zero, List.set_cons_succ, i64_w, i32_w]
              rfl
            refine pure_ (i := 16) (N := some 37) (v := ?_) (a' := ?_) #[true, true, true, true, true, true, true, true, true, true, true, true, true, true, true, true, true, false, false, false, false, false, false, false, false, false] rfl rfl (by kernel_rfl) (fun _ _ _ h => h) (Or.inl ⟨by rfl, ?_⟩) ?_ ?_
            rotate_left
            · intro w'
              go_simp
              with_reducible rfl
            rotate_left
            · simp only [Act.put, List.setIfInBounds_toArray, List.set_cons_zero, List.set_cons_succ, i64_w, i32_w]
              rfl
            refine pure_ (i := 17) (N := some 38) (v := ?_) (a' := ?_) #[true, true, true, true, true, true, true, true, true, true, true, true, true, true, true, true, true, true, false, false, false, false, false, false, false, false] rfl rfl (by kernel_rfl) (fun _ _ _ h => h) (Or.inl ⟨by rfl, ?_⟩) ?_ ?_
            rotate_left
            · intro w'
              go_simp
              with_reducible rfl
            rotate_left
            · simp only [Act.put, List.setIfInBounds_toArray, List.set_cons_zero, List.set_cons_succ, i64_w, i32_w]
              rfl
            refine pure_ (i := 18) (N := some 39) (v := undef) (a' := ?_) #[true, true, true, true, true, true, true, true, true, true, true, true, true, true, true, true, true, true, true, false, false, false, false, false, false, false] rfl rfl (by kernel_rfl) (fun _ _ _ h => h) (Or.inr ⟨by rfl, rfl⟩) ?_ ?_
            rotate_left
            · simp only [Act.put, List.setIfInBounds_toArray, List.set_cons_zero, List.set_cons_succ, i64_w, i32_w]
              rfl
            refine pure_ (i := 19) (N := some 40) (v := undef) (a' := ?_) #[true, true, true, true, true, true, true, true, true, true, true, true, true, true, true, true, true, true, true, true, false, false, false, false, false, false] rfl rfl (by kernel_rfl) (fun _ _ _ h => h) (Or.inr ⟨by rfl, rfl⟩) ?_ ?_
            rotate_left
            · simp only [Act.put, List.setIfInBounds_toArray, List.set_cons_zero, List.set_cons_succ, i64_w, i32_w]
              rfl
            refine pure_ (i := 20) (N := some 41) (v := undef) (a' := ?_) #[true, true, true, true, true, true, true, true, true, true, true, true, true, true, true, true, true, true, true, true, true, false, false, false, false, false] rfl rfl (by kernel_rfl) (fun _ _ _ h => h) (Or.inr ⟨by rfl, rfl⟩) ?_ ?_
            rotate_left
            · simp only [Act.put, List.setIfInBounds_toArray, List.set_cons_zero, List.set_cons_succ, i64_w, i32_w]
              rfl
            refine pure_ (i := 21) (N := some 42) (v := undef) (a' := ?_) #[true, true, true, true, true, true, true, true, true, true, true, true, true, true, true, true, true, true, true, true, true, true, false, false, false, false] rfl rfl (by kernel_rfl) (fun _ _ _ h => h) (Or.inr ⟨by rfl, rfl⟩) ?_ ?_
            rotate_left
            · simp only [Act.put, List.setIfInBounds_toArray, List.set_cons_zero, List.set_cons_succ, i64_w, i32_w]
              rfl
            refine pure_ (i := 22) (N := some 43) (v := undef) (a' := ?_) #[true, true, true, true, true, true, true, true, true, true, true, true, true, true, true, true, true, true, true, true, true, true, true, false, false, false] rfl rfl (by kernel_rfl) (fun _ _ _ h => h) (Or.inr ⟨by rfl, rfl⟩) ?_ ?_
            rotate_left
            · simp only [Act.put, List.setIfInBounds_toArray, List.set_cons_zero, List.set_cons_succ, i64_w, i32_w]
              rfl
            refine pure_ (i := 23) (N := some 44) (v := undef) (a' := ?_) #[true, true, true, true, true, true, true, true, true, true, true, true, true, true, true, true, true, true, true, true, true, true, true, true, false, false] rfl rfl (by kernel_rfl) (fun _ _ _ h => h) (Or.inr ⟨by rfl, rfl⟩) ?_ ?_
            rotate_left
            · simp only [Act.put, List.setIfInBounds_toArray, List.set_cons_zero, List.set_cons_succ, i64_w, i32_w]
              rfl
            refine pure_ (i := 24) (N := some 45) (v := undef) (a' := ?_) #[true, true, true, true, true, true, true, true, true, true, true, true, true, true, true, true, true, true, true, true, true, true, true, true, true, false] rfl rfl (by kernel_rfl) (fun _ _ _ h => h) (Or.inr ⟨by rfl, rfl⟩) ?_ ?_
            rotate_left
            · simp only [Act.put, List.setIfInBounds_toArray, List.set_cons_zero, List.set_cons_succ, i64_w, i32_w]
              rfl
            refine pure_ (i := 25) (N := some 46) (v := ?_) (a' := ?_) #[true, true, true, true, true, true, true, true, true, true, true, true, true, true, true, true, true, true, true, true, true, true, true, true, true, true] rfl rfl (by kernel_rfl) (fun _ _ _ h => h) (Or.inl ⟨by rfl, ?_⟩) ?_ ?_
            rotate_left
            · intro w'
              go_simp
              with_reducible rfl
            rotate_left
            · simp only [Act.put, List.setIfInBounds_toArray, List.set_cons_zero, List.set_cons_succ, i64_w, i32_w]
              rfl
            refine done_ (by kernel_rfl) ?_
            have K26 := Aside0.mk (blk_below K2.out HB6.out)
            have HBW := Aside0.mk (below_then HB2.out HB2.out.size HB6.out)
            have fc0 : w6.cell? ⟨g2, 0, none⟩ = some (.int .i64 0) := (blk_cell K26.out 0).trans rfl
            have fc1 : w6.cell? ⟨g2, 1, none⟩ = some (.int .i64 0) := (blk_cell K26.out 1).trans rfl
            have fc2 : w6.cell? ⟨g2, 2, none⟩ = some (.int .i64 0) := (blk_cell K26.out 2).trans rfl
            have fc3 : w6.cell? ⟨g2, 3, none⟩ = some (.slice none 0 0) := (blk_cell K26.out 3).trans rfl
            have yc0 := blk_frozen K26.out 0
            have yc1 := blk_frozen K26.out 1
            have yc2 := blk_frozen K26.out 2
            have yc3 := blk_frozen K26.out 3
            obtain ⟨rfl, rfl, rfl, rfl, rfl⟩ := merge_no H.out (merge_bad hlt (by rw [← HZ0.out, ← HZ1.out, HPB.out]; simp [c3]))
            go_wp2
            refine bodyPost_ret (results_ct rfl _ _ g2 27 #[.int .i64 0, .int .i64 0, .int .i64 0, .slice none 0 0] (0, 0) _ rfl (by
              refine blk_put (cs := #[.int .i64 0, .int .i64 0, .int .i64 0, .slice none 0 0]) ?_ 3 _ rfl
              refine blk_put (cs := #[.int .i64 0, .int .i64 0, .int .i64 0, .slice none 0 0]) ?_ 2 _ rfl
              refine blk_put (cs := #[.int .i64 0, .int .i64 0, .int .i64 0, .slice none 0 0]) ?_ 1 _ rfl
              refine blk_put (cs := #[.int .i64 0, .int .i64 0, .int .i64 0, .slice none 0 0]) ?_ 0 _ rfl
              exact K26.out
              ) huo rfl (by kernel_rfl)) rfl ?_
            have G2 := Gg2.out
            exact ⟨_, rfl, Kd.R_nil _ _ _ _ _, below_set (below_set (below_set (below_set HBW.out (by omega)) (by omega)) (by omega)) (by omega)⟩
        · have dqc2 : decide (x2 = 1) = false := decide_eq_false c2
          have dnc2 : (x2 != 1) = true := by simpa using c2
          have dec2 : (x2 == 1) = false := by simpa using c2
          refine start_ (n := 26) (S := fun w' => w'.cell? ⟨gs, 0, none⟩ = some (.int .i64 x0) ∧ w'.cell? ⟨gs, 1, none⟩ = some (.int .i64 x1) ∧ w'.cell? ⟨gs, 2, none⟩ = some (.int .i64 x2) ∧ w'.cell? ⟨gs, 3, none⟩ = some (.slice A3 x3.length cq) ∧ w'.cell? ⟨g1, 0, none⟩ = some (.slice (some ad) l.length c0) ∧ w'.cell? ad = some (.int .i64 z0) ∧ w'.cell? ⟨ad.block, ad.off + 1, none⟩ = some (.int .i64 z1)) (ds := []) #[false, false, false, false, false, false, false, false, false, false, false, false, false, false, false, false, false, false, false, false, false, false, false, false, false, false] (by kernel_rfl) rfl rfl ⟨((blk_cell (blk_drew KS.out) 0).trans rfl), ((blk_cell (blk_drew KS.out) 1).trans rfl), ((blk_cell (blk_drew KS.out) 2).trans rfl), ((blk_cell (blk_drew KS.out) 3).trans rfl), ((blk_cell (blk_drew (blk_below K12.out HBB.out)) 0).trans rfl), hz0, hz1⟩ (fun hHeld => ?_)
          refine take_ (i := 0) (N := some 21) (v := ?_) (a' := ?_) #[true, false, false, false, false, false, false, false, false, false, false, false, false, false, false, false, false, false, false, false, false, false, false, false, false, false] rfl rfl (by kernel_rfl) (fun _ _ _ h => h) (Or.inl ⟨by rfl, ?_⟩) hHeld ?_ ?_
          rotate_left
          · rintro w' ⟨s0, s1, s2, s3, s4, s5, s6⟩
            go_simp
            with_reducible rfl
          rotate_left
          · simp only [Act.put, List.setIfInBounds_toArray, List.set_cons_zero, List.set_cons_succ, i64_w, i32_w]
            rfl
          refine one_ (i := 1) (N := some 22) #[true, true, false, false, false, false, false, false, false, false, false, false, false, false, false, false, false, false, false, false, false, false, false, false, false, false] rfl rfl (by kernel_rfl) (by decide) (fun K hK => ?_)
          refine goes_ Try.func83 (by kernel_rfl) rfl #[.agg #[.int .i64 x0, .int .i64 x1, .int .i64 x2, .slice A3 x3.length cq]] (by rfl) rfl rfl (by simp only [List.map_toArray, List.map_cons, List.map_nil]; rfl) ?_
          with_reducible refine (impl_isImage.calls x0 x1 x2 A3 cq x3 true _ (Kd.C_below G3.out (below_drew (Below.refl _ _))) L3.out EV.out).mono ?_
          rintro e w6 ⟨rfl, hb6⟩
          refine ⟨_, rfl, ?_⟩
          have KS6 := Aside0.mk (blk_below (w := w5.drew) KS.out hb6)
          have HB6 := Aside0.mk (below_then (below_drew HBB.out) (below_drew HBB.out).size hb6)
          have hz06 := (bcell w5 hb6 hz0)
          have hz16 := (bcell w5 hb6 hz1)
          clear hb6
          refine hK.out _ _ ⟨((blk_cell KS6.out 0).trans rfl), ((blk_cell KS6.out 1).trans rfl), ((blk_cell KS6.out 2).trans rfl), ((blk_cell KS6.out 3).trans rfl), ((blk_cell (blk_below K12.out HB6.out) 0).trans rfl), hz06, hz16⟩ (fun hHeld => ?_)
          clear hK K
          refine norm_ (a' := ?_) ?_ ?_
          rotate_left
          · show Act.put _ (some 22) _ = _
            simp only [Act.put, List.setIfInBounds_toArray, List.set_cons_zero, List.set_cons_succ, i64_w, i32_w]
            rfl
          refine pure_ (i := 2) (N := some 23) (v := ?_) (a' := ?_) #[true, true, true, false, false, false, false, false, false, false, false, false, false, false, false, false, false, false, false, false, false, false, false, false, false, false] rfl rfl (by kernel_rfl) (fun _ _ _ h => h) (Or.inl ⟨by rfl, ?_⟩) ?_ ?_
          rotate_left
          · intro w'
            go_simp
            with_reducible rfl
          rotate_left
          · simp only [Act.put, List.setIfInBounds_toArray, List.set_cons_zero, List.set_cons_succ, i64_w, i32_w]
            rfl
          refine pure_ (i := 3) (N := some 24) (v := ?_) (a' := ?_) #[true, true, true, true, false, false, false, false, false, false, false, false, false, false, false, false, false, false, false, false, false, false, false, false, false, false] rfl rfl (by kernel_rfl) (fun _ _ _ h => h) (Or.inl ⟨by rfl, ?_⟩) ?_ ?_
          rotate_left
          · intro w'
            go_simp
            with_reducible rfl
          rotate_left
          · simp only [Act.put, List.setIfInBounds_toArray, List.set_cons_zero, List.set_cons_succ, i64_w, i32_w]
            rfl
          refine pure_ (i := 4) (N := some 25) (v := ?_) (a' := ?_) #[true, true, true, true, true, false, false, false, false, false, false, false, false, false, false, false, false, false, false, false, false, false, false, false, false, false] rfl rfl (by kernel_rfl) (fun _ _ _ h => h) (Or.inl ⟨by rfl, ?_⟩) ?_ ?_
          rotate_left
          · intro w'
            go_simp
            with_reducible rfl
          rotate_left
          · simp only [Act.put, List.setIfInBounds_toArray, List.set_cons_zero, List.set_cons_succ, i64_w, i32_w]
            rfl
          refine take_ (i := 5) (N := some 26) (v := ?_) (a' := ?_) #[true, true, true, true, true, true, false, false, false, false, false, false, false, false, false, false, false, false, false, false, false, false, false, false, false, false] rfl rfl (by kernel_rfl) (fun _ _ _ h => h) (Or.inl ⟨by rfl, ?_⟩) hHeld ?_ ?_
          rotate_left
          · rintro w' ⟨s0, s1, s2, s3, s4, s5, s6⟩
            go_simp
            with_reducible rfl
          rotate_left
          · simp only [Act.put, List.setIfInBounds_toArray, List.set_cons_zero, List.set_cons_succ, i64_w, i32_w]
            rfl
          refine pure_ (i := 6) (N := some 27) (v := ?_) (a' := ?_) #[true, true, true, true, true, true, true, false, false, false, false, false, false, false, false, false, false, false, false, false, false, false, false, false, false, false] rfl rfl (by kernel_rfl) (fun _ _ _ h => h) (Or.inl ⟨by rfl, ?_⟩) ?_ ?_
          rotate_left
          · intro w'
            go_simp
            with_reducible rfl
          rotate_left
          · simp only [Act.put, List.setIfInBounds_toArray, List.set_cons_zero, List.set_cons_succ, i64_w, i32_w]
            rfl
          refine pure_ (i := 7) (N := some 28) (v := ?_) (a' := ?_) #[true, true, true, true, true, true, true, true, false, false, false, false, false, false, false, false, false, false, false, false, false, false, false, false, false, false] rfl rfl (by kernel_rfl) (fun _ _ _ h => h) (Or.inl ⟨by rfl, ?_⟩) ?_ ?_
          rotate_left
          · intro w'
            go_simp
            with_reducible rfl
          rotate_left
          · simp only [Act.put, List.setIfInBounds_toArray, List.set_cons_zero, List.set_cons_succ, i64_w, i32_w]
            rfl
          refine pure_ (i := 8) (N := some 29) (v := ?_) (a' := ?_) #[true, true, true, true, true, true, true, true, true, false, false, false, false, false, false, false, false, false, false, false, false, false, false, false, false, false] rfl rfl (by kernel_rfl) (fun _ _ _ h => h) (Or.inl ⟨by rfl, ?_⟩) ?_ ?_
          rotate_left
          · intro w'
            go_simp
            with_reducible rfl
          rotate_left
          · simp only [Act.put, List.setIfInBounds_toArray, List.set_cons_zero, List.set_cons_succ, i64_w, i32_w]
            rfl
          refine pure_ (i := 9) (N := some 30) (v := undef) (a' := ?_) #[true, true, true, true, true, true, true, true, true, true, false, false, false, false, false, false, false, false, false, false, false, false, false, false, false, false] rfl rfl (by kernel_rfl) (fun _ _ _ h => h) (Or.inr ⟨by rfl, rfl⟩) ?_ ?_
          rotate_left
          · simp only [Act.put, List.setIfInBounds_toArray, List.set_cons_zero, List.set_cons_succ, i64_w, i32_w]
            rfl
          refine pure_ (i := 10) (N := some 31) (v := undef) (a' := ?_) #[true, true, true, true, true, true, true, true, true, true, true, false, false, false, false, false, false, false, false, false, false, false, false, false, false, false] rfl rfl (by kernel_rfl) (fun _ _ _ h => h) (Or.inr ⟨by rfl, rfl⟩) ?_ ?_
          rotate_left
          · simp only [Act.put, List.setIfInBounds_toArray, List.set_cons_zero, List.set_cons_succ, i64_w, i32_w]
            rfl
          refine pure_ (i := 11) (N := some 32) (v := undef) (a' := ?_) #[true, true, true, true, true, true, true, true, true, true, true, true, false, false, false, false, false, false, false, false, false, false, false, false, false, false] rfl rfl (by kernel_rfl) (fun _ _ _ h => h) (Or.inr ⟨by rfl, rfl⟩) ?_ ?_
          rotate_left
          · simp only [Act.put, List.setIfInBounds_toArray, List.set_cons_zero, List.set_cons_succ, i64_w, i32_w]
            rfl
          refine pure_ (i := 12) (N := some 33) (v := undef) (a' := ?_) #[true, true, true, true, true, true, true, true, true, true, true, true, true, false, false, false, false, false, false, false, false, false, false, false, false, false] rfl rfl (by kernel_rfl) (fun _ _ _ h => h) (Or.inr ⟨by rfl, rfl⟩) ?_ ?_
          rotate_left
          · simp only [Act.put, List.setIfInBounds_toArray, List.set_cons_zero, List.set_cons_succ, i64_w, i32_w]
            rfl
          refine pure_ (i := 13) (N := some 34) (v := undef) (a' := ?_) #[true, true, true, true, true, true, true, true, true, true, true, true, true, true, false, false, false, false, false, false, false, false, false, false, false, false] rfl rfl (by kernel_rfl) (fun _ _ _ h => h) (Or.inr ⟨by rfl, rfl⟩) ?_ ?_
          rotate_left
          · simp only [Act.put, List.setIfInBounds_toArray, List.set_cons_zero, List.set_cons_succ, i64_w, i32_w]
            rfl
          refine pure_ (i := 14) (N := some 35) (v := undef) (a' := ?_) #[true, true, true, true, true, true, true, true, true, true, true, true, true, true, true, false, false, false, false, false, false, false, false, false, false, false] rfl rfl (by kernel_rfl) (fun _ _ _ h => h) (Or.inr ⟨by rfl, rfl⟩) ?_ ?_
          rotate_left
          · simp only [Act.put, List.setIfInBounds_toArray, List.set_cons_zero, List.set_cons_succ, i64_w, i32_w]
            rfl
          refine pure_ (i := 15) (N := some 36) (v := undef) (a' := ?_) #[true, true, true, true, true, true, true, true, true, true, true, true, true, true, true, true, false, false, false, false, false, false, false, false, false, false] rfl rfl (by kernel_rfl) (fun _ _ _ h => h) (Or.inr ⟨by rfl, rfl⟩) ?_ ?_
          rotate_left
          · simp only [Act.put, List.setIfInBounds_toArray, List.set_cons_zero, List.set_cons_succ, i64_w, i32_w]
            rfl
          refine pure_ (i := 16) (N := some 37) (v := ?_) (a' := ?_) #[true, true, true, true, true, true, true, true, true, true, true, true, true, true, true, true, true, false, false, false, false, false, false, false, false, false] rfl rfl (by kernel_rfl) (fun _ _ _ h => h) (Or.inl ⟨by rfl, ?_⟩) ?_ ?_
          rotate_left
          · intro w'
            go_simp
            with_reducible rfl
          rotate_left
          · simp only [Act.put, List.setIfInBounds_toArray, List.set_cons_zero, List.set_cons_succ, i64_w, i32_w]
            rfl
          refine pure_ (i := 17) (N := some 38) (v := ?_) (a' := ?_) #[true, true, true, true, true, true, true, true, true, true, true, true, true, true, true, true, true, true, false, false, false, false, false, false, false, false] rfl rfl (by kernel_rfl) (fun _ _ _ h => h) (Or.inl ⟨by rfl, ?_⟩) ?_ ?_
          rotate_left
          · intro w'
            go_simp
            with_reducible rfl
          rotate_left
          · simp only [Act.put, List.setIfInBounds_toArray, List.set_cons_zero, List.set_cons_succ, i64_w, i32_w]
            rfl
          refine pure_ (i := 18) (N := some 39) (v := undef) (a' := ?_) #[true, true, true, true, true, true, true, true, true, true, true, true, true, true, true, true, true, true, true, false, false, false, false, false, false, false] rfl rfl (by kernel_rfl) (fun _ _ _ h => h) (Or.inr ⟨by rfl, rfl⟩) ?_ ?_
          rotate_left
          · simp only [Act.put, List.setIfInBounds_toArray, List.set_cons_zero, List.set_cons_succ, i64_w, i32_w]
            rfl
          refine pure_ (i := 19) (N := some 40) (v := undef) (a' := ?_) #[true, true, true, true, true, true, true, true, true, true, true, true, true, true, true, true, true, true, true, true, false, false, false, false, false, false] rfl rfl (by kernel_rfl) (fun _ _ _ h => h) (Or.inr ⟨by rfl, rfl⟩) ?_ ?_
          rotate_left
          · simp only [Act.put, List.setIfInBounds_toArray, List.set_cons_zero, List.set_cons_succ, i64_w, i32_w]
            rfl
          refine pure_ (i := 20) (N := some 41) (v := undef) (a' := ?_) #[true, true, true, true, true, true, true, true, true, true, true, true, true, true, true, true, true, true, true, true, true, false, false, false, false, false] rfl rfl (by kernel_rfl) (fun _ _ _ h => h) (Or.inr ⟨by rfl, rfl⟩) ?_ ?_
          rotate_left
          · simp only [Act.put, List.setIfInBounds_toArray, List.set_cons_zero, List.set_cons_succ, i64_w, i32_w]
            rfl
          refine pure_ (i := 21) (N := some 42) (v := undef) (a' := ?_) #[true, true, true, true, true, true, true, true, true, true, true, true, true, true, true, true, true, true, true, true, true, true, false, false, false, false] rfl rfl (by kernel_rfl) (fun _ _ _ h => h) (Or.inr ⟨by rfl, rfl⟩) ?_ ?_
          rotate_left
          · simp only [Act.put, List.setIfInBounds_toArray, List.set_cons_zero, List.set_cons_succ, i64_w, i32_w]
            rfl
          refine pure_ (i := 22) (N := some 43) (v := undef) (a' := ?_) #[true, true, true, true, true, true, true, true, true, true, true, true, true, true, true, true, true, true, true, true, true, true, true, false, false, false] rfl rfl (by kernel_rfl) (fun _ _ _ h => h) (Or.inr ⟨by rfl, rfl⟩) ?_ ?_
          rotate_left
          · simp only [Act.put, List.setIfInBounds_toArray, List.set_cons_zero, List.set_cons_succ, i64_w, i32_w]
            rfl
          refine pure_ (i := 23) (N := some 44) (v := undef) (a' := ?_) #[true, true, true, true, true, true, true, true, true, true, true, true, true, true, true, true, true, true, true, true, true, true, true, true, false, false] rfl rfl (by kernel_rfl) (fun _ _ _ h => h) (Or.inr ⟨by rfl, rfl⟩) ?_ ?_
          rotate_left
          · simp only [Act.put, List.setIfInBounds_toArray, List.set_cons_zero, List.set_cons_succ, i64_w, i32_w]
            rfl
          refine pure_ (i := 24) (N := some 45) (v := undef) (a' := ?_) #[true, true, true, true, true, true, true, true, true, true, true, true, true, true, true, true, true, true, true, true, true, true, true, true, true, false] rfl rfl (by kernel_rfl) (fun _ _ _ h => h) (Or.inr ⟨by rfl, rfl⟩) ?_ ?_
          rotate_left
          · simp only [Act.put, List.setIfInBounds_toArray, List.set_cons_zero, List.set_cons_succ, i64_w, i32_w]
            rfl
          refine pure_ (i := 25) (N := some 46) (v := ?_) (a' := ?_) #[true, true, true, true, true, true, true, true, true, true, true, true, true, true, true, true, true, true, true, true, true, true, true, true, true, true] rfl rfl (by kernel_rfl) (fun _ _ _ h => h) (Or.inl ⟨by rfl, ?_⟩) ?_ ?_
          rotate_left
          · intro w'
            go_simp
            with_reducible rfl
          rotate_left
          · simp only [Act.put, List.setIfInBounds_toArray, List.set_cons_zero, List.set_cons_succ, i64_w, i32_w]
            rfl
          refine done_ (by kernel_rfl) ?_
          have K26 := Aside0.mk (blk_below K2.out HB6.out)
          have HBW := Aside0.mk (below_then HB2.out HB2.out.size HB6.out)
          have fc0 : w6.cell? ⟨g2, 0, none⟩ = some (.int .i64 0) := (blk_cell K26.out 0).trans rfl
          have fc1 : w6.cell? ⟨g2, 1, none⟩ = some (.int .i64 0) := (blk_cell K26.out 1).trans rfl
          have fc2 : w6.cell? ⟨g2, 2, none⟩ = some (.int .i64 0) := (blk_cell K26.out 2).trans rfl
          have fc3 : w6.cell? ⟨g2, 3, none⟩ = some (.slice none 0 0) := (blk_cell K26.out 3).trans rfl
          have yc0 := blk_frozen K26.out 0
          have yc1 := blk_frozen K26.out 1
          have yc2 := blk_frozen K26.out 2
          have yc3 := blk_frozen K26.out 3
          obtain ⟨rfl, rfl, rfl, rfl, rfl⟩ := merge_no H.out (merge_bad hlt (by rw [← HZ0.out, ← HZ1.out, HPB.out]; simp [c2]))
          go_wp2
          refine bodyPost_ret (results_ct rfl _ _ g2 27 #[.int .i64 0, .int .i64 0, .int .i64 0, .slice none 0 0] (0, 0) _ rfl (by
            refine blk_put (cs := #[.int .i64 0, .int .i64 0, .int .i64 0, .slice none 0 0]) ?_ 3 _ rfl
            refine blk_put (cs := #[.int .i64 0, .int .i64 0, .int .i64 0, .slice none 0 0]) ?_ 2 _ rfl
            refine blk_put (cs := #[.int .i64 0, .int .i64 0, .int .i64 0, .slice none 0 0]) ?_ 1 _ rfl
            refine blk_put (cs := #[.int .i64 0, .int .i64 0, .int .i64 0, .slice none 0 0]) ?_ 0 _ rfl
            exact K26.out
            ) huo rfl (by kernel_rfl)) rfl ?_
          have G2 := Gg2.out
          exact ⟨_, rfl, Kd.R_nil _ _ _ _ _, below_set (below_set (below_set (below_set HBW.out (by omega)) (by omega)) (by omega)) (by omega)⟩
      · replace c1 : validI x0 x1 x2 x3 = false := by simpa using c1
        rw [c1] at EV
        refine start_ (n := 26) (S := fun w' => w'.cell? ⟨gs, 0, none⟩ = some (.int .i64 x0) ∧ w'.cell? ⟨gs, 1, none⟩ = some (.int .i64 x1) ∧ w'.cell? ⟨gs, 2, none⟩ = some (.int .i64 x2) ∧ w'.cell? ⟨gs, 3, none⟩ = some (.slice A3 x3.length cq) ∧ w'.cell? ⟨g1, 0, none⟩ = some (.slice (some ad) l.length c0) ∧ w'.cell? ad = some (.int .i64 z0) ∧ w'.cell? ⟨ad.block, ad.off + 1, none⟩ = some (.int .i64 z1)) (ds := []) #[false, false, false, false, false, false, false, false, false, false, false, false, false, false, false, false, false, false, false, false, false, false, false, false, false, false] (by kernel_rfl) rfl rfl ⟨((blk_cell (blk_drew KS.out) 0).trans rfl), ((blk_cell (blk_drew KS.out) 1).trans rfl), ((blk_cell (blk_drew KS.out) 2).trans rfl), ((blk_cell (blk_drew KS.out) 3).trans rfl), ((blk_cell (blk_drew (blk_below K12.out HBB.out)) 0).trans rfl), hz0, hz1⟩ (fun hHeld => ?_)
        refine take_ (i := 0) (N := some 21) (v := ?_) (a' := ?_) #[true, false, false, false, false, false, false, false, false, false, false, false, false, false, false, false, false, false, false, false, false, false, false, false, false, false] rfl rfl (by kernel_rfl) (fun _ _ _ h => h) (Or.inl ⟨by rfl, ?_⟩) hHeld ?_ ?_
        rotate_left
        · rintro w' ⟨s0, s1, s2, s3, s4, s5, s6⟩
          go_simp
          with_reducible rfl
        rotate_left
        · simp only [Act.put, List.setIfInBounds_toArray, List.set_cons_zero, List.set_cons_succ, i64_w, i32_w]
          rfl
        refine one_ (i := 1) (N := some 22) #[true, true, false, false, false, false, false, false, false, false, false, false, false, false, false, false, false, false, false, false, false, false, false, false, false, false] rfl rfl (by kernel_rfl) (by decide) (fun K hK => ?_)
        refine goes_ Try.func83 (by kernel_rfl) rfl #[.agg #[.int .i64 x0, .int .i64 x1, .int .i64 x2, .slice A3 x3.length cq]] (by rfl) rfl rfl (by simp only [List.map_toArray, List.map_cons, List.map_nil]; rfl) ?_
        with_reducible refine (impl_isImage.calls x0 x1 x2 A3 cq x3 false _ (Kd.C_below G3.out (below_drew (Below.refl _ _))) L3.out EV.out).mono ?_
        rintro e w6 ⟨rfl, hb6⟩
        refine ⟨_, rfl, ?_⟩
        have KS6 := Aside0.mk (blk_below (w := w5.drew) KS.out hb6)
        have HB6 := Aside0.mk (below_then (below_drew HBB.out) (below_drew HBB.out).size hb6)
        have hz06 := (bcell w5 hb6 hz0)
        have hz16 := (bcell w5 hb6 hz1)
        clear hb6
        refine hK.out _ _ ⟨((blk_cell KS6.out 0).trans rfl), ((blk_cell KS6.out 1).trans rfl), ((blk_cell KS6.out 2).trans rfl), ((blk_cell KS6.out 3).trans rfl), ((blk_cell (blk_below K12.out HB6.out) 0).trans rfl), hz06, hz16⟩ (fun hHeld => ?_)
        clear hK K
        refine norm_ (a' := ?_) ?_ ?_
        rotate_left
        · show Act.put _ (some 22) _ = _
          simp only [Act.put, List.setIfInBounds_toArray, List.set_cons_zero, List.set_cons_succ, i64_w, i32_w]
          rfl
        refine pure_ (i := 2) (N := some 23) (v := ?_) (a' := ?_) #[true, true, true, false, false, false, false, false, false, false, false, false, false, false, false, false, false, false, false, false, false, false, false, false, false, false] rfl rfl (by kernel_rfl) (fun _ _ _ h => h) (Or.inl ⟨by rfl, ?_⟩) ?_ ?_
        rotate_left
        · intro w'
          go_simp
          with_reducible rfl
        rotate_left
        · simp only [Act.put, List.setIfInBounds_toArray, List.set_cons_zero, List.set_cons_succ, i64_w, i32_w]
          rfl
        refine pure_ (i := 3) (N := some 24) (v := ?_) (a' := ?_) #[true, true, true, true, false, false, false, false, false, false, false, false, false, false, false, false, false, false, false, false, false, false, false, false, false, false] rfl rfl (by kernel_rfl) (fun _ _ _ h => h) (Or.inl ⟨by rfl, ?_⟩) ?_ ?_
        rotate_left
        · intro w'
          go_simp
          with_reducible rfl
        rotate_left
        · simp only [Act.put, List.setIfInBounds_toArray, List.set_cons_zero, List.set_cons_succ, i64_w, i32_w]
          rfl
        refine pure_ (i := 4) (N := some 25) (v := undef) (a' := ?_) #[true, true, true, true, true, false, false, false, false, false, false, false, false, false, false, false, false, false, false, false, false, false, false, false, false, false] rfl rfl (by kernel_rfl) (fun _ _ _ h => h) (Or.inr ⟨by rfl, rfl⟩) ?_ ?_
        rotate_left
        · simp only [Act.put, List.setIfInBounds_toArray, List.set_cons_zero, List.set_cons_succ, i64_w, i32_w]
          rfl
        refine pure_ (i := 5) (N := some 26) (v := undef) (a' := ?_) #[true, true, true, true, true, true, false, false, false, false, false, false, false, false, false, false, false, false, false, false, false, false, false, false, false, false] rfl rfl (by kernel_rfl) (fun _ _ _ h => h) (Or.inr ⟨by rfl, rfl⟩) ?_ ?_
        rotate_left
        · simp only [Act.put, List.setIfInBounds_toArray, List.set_cons_zero, List.set_cons_succ, i64_w, i32_w]
          rfl
        refine pure_ (i := 6) (N := some 27) (v := undef) (a' := ?_) #[true, true, true, true, true, true, true, false, false, false, false, false, false, false, false, false, false, false, false, false, false, false, false, false, false, false] rfl rfl (by kernel_rfl) (fun _ _ _ h => h) (Or.inr ⟨by rfl, rfl⟩) ?_ ?_
        rotate_left
        · simp only [Act.put, List.setIfInBounds_toArray, List.set_cons_zero, List.set_cons_succ, i64_w, i32_w]
          rfl
        refine pure_ (i := 7) (N := some 28) (v := ?_) (a' := ?_) #[true, true, true, true, true, true, true, true, false, false, false, false, false, false, false, false, false, false, false, false, false, false, false, false, false, false] rfl rfl (by kernel_rfl) (fun _ _ _ h => h) (Or.inl ⟨by rfl, ?_⟩) ?_ ?_
        rotate_left
        · intro w'
          go_simp
          with_reducible rfl
        rotate_left
        · simp only [Act.put, List.setIfInBounds_toArray, List.set_cons_zero, List.set_cons_succ, i64_w, i32_w]
          rfl
        refine pure_ (i := 8) (N := some 29) (v := ?_) (a' := ?_) #[true, true, true, true, true, true, true, true, true, false, false, false, false, false, false, false, false, false, false, false, false, false, false, false, false, false] rfl rfl (by kernel_rfl) (fun _ _ _ h => h) (Or.inl ⟨by rfl, ?_⟩) ?_ ?_
        rotate_left
        · intro w'
          go_simp
          with_reducible rfl
        rotate_left
        · simp only [Act.put, List.setIfInBounds_toArray, List.set_cons_zero, List.set_cons_succ, i64_w, i32_w]
          rfl
        refine pure_ (i := 9) (N := some 30) (v := undef) (a' := ?_) #[true, true, true, true, true, true, true, true, true, true, false, false, false, false, false, false, false, false, false, false, false, false, false, false, false, false] rfl rfl (by kernel_rfl) (fun _ _ _ h => h) (Or.inr ⟨by rfl, rfl⟩) ?_ ?_
        rotate_left
        · simp only [Act.put, List.setIfInBounds_toArray, List.set_cons_zero, List.set_cons_succ, i64_w, i32_w]
          rfl
        refine pure_ (i := 10) (N := some 31) (v := undef) (a' := ?_) #[true, true, true, true, true, true, true, true, true, true, true, false, false, false, false, false, false, false, false, false, false, false, false, false, false, false] rfl rfl (by kernel_rfl) (fun _ _ _ h => h) (Or.inr ⟨by rfl, rfl⟩) ?_ ?_
        rotate_left
        · simp only [Act.put, List.setIfInBounds_toArray, List.set_cons_zero, List.set_cons_succ, i64_w, i32_w]
          rfl
        refine pure_ (i := 11) (N := some 32) (v := undef) (a' := ?_) #[true, true, true, true, true, true, true, true, true, true, true, true, false, false, false, false, false, false, false, false, false, false, false, false, false, false] rfl rfl (by kernel_rfl) (fun _ _ _ h => h) (Or.inr ⟨by rfl, rfl⟩) ?_ ?_
        rotate_left
        · simp only [Act.put, List.setIfInBounds_toArray, List.set_cons_zero, List.set_cons_succ, i64_w, i32_w]
          rfl
        refine pure_ (i := 12) (N := some 33) (v := undef) (a' := ?_) #[true, true, true, true, true, true, true, true, true, true, true, true, true, false, false, false, false, false, false, false, false, false, false, false, false, false] rfl rfl (by kernel_rfl) (fun _ _ _ h => h) (Or.inr ⟨by rfl, rfl⟩) ?_ ?_
        rotate_left
        · simp only [Act.put, List.setIfInBounds_toArray, List.set_cons_zero, List.set_cons_succ, i64_w, i32_w]
          rfl
        refine pure_ (i := 13) (N := some 34) (v := undef) (a' := ?_) #[true, true, true, true, true, true, true, true, true, true, true, true, true, true, false, false, false, false, false, false, false, false, false, false, false, false] rfl rfl (by kernel_rfl) (fun _ _ _ h => h) (Or.inr ⟨by rfl, rfl⟩) ?_ ?_
        rotate_left
        · simp only [Act.put, List.setIfInBounds_toArray, List.set_cons_zero, List.set_cons_succ, i64_w, i32_w]
          rfl
        refine pure_ (i := 14) (N := some 35) (v := undef) (a' := ?_) #[true, true, true, true, true, true, true, true, true, true, true, true, true, true, true, false, false, false, false, false, false, false, false, false, false, false] rfl rfl (by kernel_rfl) (fun _ _ _ h => h) (Or.inr ⟨by rfl, rfl⟩) ?_ ?_
        rotate_left
        · simp only [Act.put, List.setIfInBounds_toArray, List.set_cons_zero, List.set_cons_succ, i64_w, i32_w]
          rfl
        refine pure_ (i := 15) (N := some 36) (v := undef) (a' := ?_) #[true, true, true, true, true, true, true, true, true, true, true, true, true, true, true, true, false, false, false, false, false, false, false, false, false, false] rfl rfl (by kernel_rfl) (fun _ _ _ h => h) (Or.inr ⟨by rfl, rfl⟩) ?_ ?_
        rotate_left
        · simp only [Act.put, List.setIfInBounds_toArray, List.set_cons_zero, List.set_cons_succ, i64_w, i32_w]
          rfl
        refine pure_ (i := 16) (N := some 37) (v := ?_) (a' := ?_) #[true, true, true, true, true, true, true, true, true, true, true, true, true, true, true, true, true, false, false, false, false, false, false, false, false, false] rfl rfl (by kernel_rfl) (fun _ _ _ h => h) (Or.inl ⟨by rfl, ?_⟩) ?_ ?_
        rotate_left
        · intro w'
          go_simp
          with_reducible rfl
        rotate_left
        · simp only [Act.put, List.setIfInBounds_toArray, List.set_cons_zero, List.set_cons_succ, i64_w, i32_w]
          rfl
        refine pure_ (i := 17) (N := some 38) (v := ?_) (a' := ?_) #[true, true, true, true, true, true, true, true, true, true, true, true, true, true, true, true, true, true, false, false, false, false, false, false, false, false] rfl rfl (by kernel_rfl) (fun _ _ _ h => h) (Or.inl ⟨by rfl, ?_⟩) ?_ ?_
        rotate_left
        · intro w'
          go_simp
          with_reducible rfl
        rotate_left
        · simp only [Act.put, List.setIfInBounds_toArray, List.set_cons_zero, List.set_cons_succ, i64_w, i32_w]
          rfl
        refine pure_ (i := 18) (N := some 39) (v := undef) (a' := ?_) #[true, true, true, true, true, true, true, true, true, true, true, true, true, true, true, true, true, true, true, false, false, false, false, false, false, false] rfl rfl (by kernel_rfl) (fun _ _ _ h => h) (Or.inr ⟨by rfl, rfl⟩) ?_ ?_
        rotate_left
        · simp only [Act.put, List.setIfInBounds_toArray, List.set_cons_zero, List.set_cons_succ, i64_w, i32_w]
          rfl
        refine pure_ (i := 19) (N := some 40) (v := undef) (a' := ?_) #[true, true, true, true, true, true, true, true, true, true, true, true, true, true, true, true, true, true, true, true, false, false, false, false, false, false] rfl rfl (by kernel_rfl) (fun _ _ _ h => h) (Or.inr ⟨by rfl, rfl⟩) ?_ ?_
        rotate_left
        · simp only [Act.put, List.setIfInBounds_toArray, List.set_cons_zero, List.set_cons_succ, i64_w, i32_w]
          rfl
        refine pure_ (i := 20) (N := some 41) (v := undef) (a' := ?_) #[true, true, true, true, true, true, true, true, true, true, true, true, true, true, true, true, true, true, true, true, true, false, false, false, false, false] rfl rfl (by kernel_rfl) (fun _ _ _ h => h) (Or.inr ⟨by rfl, rfl⟩) ?_ ?_
        rotate_left
        · simp only [Act.put, List.setIfInBounds_toArray, List.set_cons_zero, List.set_cons_succ, i64_w, i32_w]
          rfl
        refine pure_ (i := 21) (N := some 42) (v := undef) (a' := ?_) #[true, true, true, true, true, true, true, true, true, true, true, true, true, true, true, true, true, true, true, true, true, true, false, false, false, false] rfl rfl (by kernel_rfl) (fun _ _ _ h => h) (Or.inr ⟨by rfl, rfl⟩) ?_ ?_
        rotate_left
        · simp only [Act.put, List.setIfInBounds_toArray, List.set_cons_zero, List.set_cons_succ, i64_w, i32_w]
          rfl
        refine pure_ (i := 22) (N := some 43) (v := undef) (a' := ?_) #[true, true, true, true, true, true, true, true, true, true, true, true, true, true, true, true, true, true, true, true, true, true, true, false, false, false] rfl rfl (by kernel_rfl) (fun _ _ _ h => h) (Or.inr ⟨by rfl, rfl⟩) ?_ ?_
        rotate_left
        · simp only [Act.put, List.setIfInBounds_toArray, List.set_cons_zero, List.set_cons_succ, i64_w, i32_w]
          rfl
        refine pure_ (i := 23) (N := some 44) (v := undef) (a' := ?_) #[true, true, true, true, true, true, true, true, true, true, true, true, true, true, true, true, true, true, true, true, true, true, true, true, false, false] rfl rfl (by kernel_rfl) (fun _ _ _ h => h) (Or.inr ⟨by rfl, rfl⟩) ?_ ?_
        rotate_left
        · simp only [Act.put, List.setIfInBounds_toArray, List.set_cons_zero, List.set_cons_succ, i64_w, i32_w]
          rfl
        refine pure_ (i := 24) (N := some 45) (v := undef) (a' := ?_) #[true, true, true, true, true, true, true, true, true, true, true, true, true, true, true, true, true, true, true, true, true, true, true, true, true, false] rfl rfl (by kernel_rfl) (fun _ _ _ h => h) (Or.inr ⟨by rfl, rfl⟩) ?_ ?_
        rotate_left
        · simp only [Act.put, List.setIfInBounds_toArray, List.set_cons_zero, List.set_cons_succ, i64_w, i32_w]
          rfl
        refine pure_ (i := 25) (N := some 46) (v := ?_) (a' := ?_) #[true, true, true, true, true, true, true, true, true, true, true, true, true, true, true, true, true, true, true, true, true, true, true, true, true, true] rfl rfl (by kernel_rfl) (fun _ _ _ h => h) (Or.inl ⟨by rfl, ?_⟩) ?_ ?_
        rotate_left
        · intro w'
          go_simp
          with_reducible rfl
        rotate_left
        · simp only [Act.put, List.setIfInBounds_toArray, List.set_cons_zero, List.set_cons_succ, i64_w, i32_w]
          rfl
        refine done_ (by kernel_rfl) ?_
        have K26 := Aside0.mk (blk_below K2.out HB6.out)
        have HBW := Aside0.mk (below_then HB2.out HB2.out.size HB6.out)
        have fc0 : w6.cell? ⟨g2, 0, none⟩ = some (.int .i64 0) := (blk_cell K26.out 0).trans rfl
        have fc1 : w6.cell? ⟨g2, 1, none⟩ = some (.int .i64 0) := (blk_cell K26.out 1).trans rfl
        have fc2 : w6.cell? ⟨g2, 2, none⟩ = some (.int .i64 0) := (blk_cell K26.out 2).trans rfl
        have fc3 : w6.cell? ⟨g2, 3, none⟩ = some (.slice none 0 0) := (blk_cell K26.out 3).trans rfl
        have yc0 := blk_frozen K26.out 0
        have yc1 := blk_frozen K26.out 1
        have yc2 := blk_frozen K26.out 2
        have yc3 := blk_frozen K26.out 3
        obtain ⟨rfl, rfl, rfl, rfl, rfl⟩ := merge_no H.out (merge_bad hlt (by rw [← HZ0.out, ← HZ1.out, HPB.out]; simp [c1]))
        go_wp2
        refine bodyPost_ret (results_ct rfl _ _ g2 27 #[.int .i64 0, .int .i64 0, .int .i64 0, .slice none 0 0] (0, 0) _ rfl (by
          refine blk_put (cs := #[.int .i64 0, .int .i64 0, .int .i64 0, .slice none 0 0]) ?_ 3 _ rfl
          refine blk_put (cs := #[.int .i64 0, .int .i64 0, .int .i64 0, .slice none 0 0]) ?_ 2 _ rfl
          refine blk_put (cs := #[.int .i64 0, .int .i64 0, .int .i64 0, .slice none 0 0]) ?_ 1 _ rfl
          refine blk_put (cs := #[.int .i64 0, .int .i64 0, .int .i64 0, .slice none 0 0]) ?_ 0 _ rfl
          exact K26.out
          ) huo rfl (by kernel_rfl)) rfl ?_
        have G2 := Gg2.out
        exact ⟨_, rfl, Kd.R_nil _ _ _ _ _, below_set (below_set (below_set (below_set HBW.out (by omega)) (by omega)) (by omega)) (by omega)⟩
    · have q1 : decide ((i : Int) < (l.length : Int)) = false := decide_eq_false (by omega)
      have hin : i = l.length := by omega
      subst hin
      have hall : ∀ q ∈ l, planeB (rd_T27 l 0).f0 (rd_T27 l 0).f1 q = true := by have h := HV.out.1; rw [List.take_of_length_le (Nat.le_refl _)] at h; exact h
      have hmg : mergeOK l = true := by unfold mergeOK; rw [List.all_eq_true.2 hall]; simp; omega
      have hf := H.out
      unfold impl_MergePlanes.f at hf
      rw [if_pos hmg] at hf
      have hm0 : rd_T27 l 0 ∈ l := by rw [show rd_T27 l 0 = l[0] from by simp [rd_T27, show 0 < l.length from by omega]]; exact List.getElem_mem _
      have hp0 := planeB_ok (hall _ hm0)
      have hs := ((validI_iff _ _ _ _).1 hp0.1).1
      obtain ⟨ad, Az, cz, eB, hz0, hz1, _, _, _, _⟩ := at_T27 (Kd.C_below (Kd.C_below HR.out HB2.out) HV.out.2) 0 (by omega) (by omega)
      subst eB
      have hokq : ∀ q ∈ l, planeOK (rd_T27 l 0).f0 (rd_T27 l 0).f1 q := fun q hq => planeB_ok (hall q hq)
      obtain ⟨a, ha⟩ := Int.eq_ofNat_of_zero_le (show 0 ≤ (rd_T27 l 0).f0 by omega)
      obtain ⟨b, hb⟩ := Int.eq_ofNat_of_zero_le (show 0 ≤ (rd_T27 l 0).f1 by omega)
      rw [ha] at hokq hz0 hs hf
      rw [hb] at hokq hz1 hs hf
      rw [Int.toNat_natCast, Int.toNat_natCast] at hf
      obtain ⟨rfl, rfl, rfl, rfl, rfl⟩ : (a : Int) = r1 ∧ (b : Int) = r2 ∧ (l.length : Int) = r3 ∧ imgD (mergePx l) a b = r4 ∧ true = r5 := by simpa using hf
      rw [show ad.add (Int.toNat 0 * 4) = ad from add_none ad] at hz0 hz1
      have HOK := Aside0.mk hokq
      have ha16 : a ≤ 16 := by omega
      have hb16 : b ≤ 16 := by omega
      have HPL := Aside0.mk (show ∀ x y, x < a → y < b → (mergePx l x y).length ≤ 4 from fun x y hx hy => by rw [mergePx_len l x y (a := (a : Int)) (b := (b : Int)) (by omega) (by omega) hokq]; exact hn4)
      have EG := Aside0.mk (show ∀ args W, (callFunc 112 args).run Try.prog W = .ok (.enter 112 args) W from enters_of Try.func112 (by kernel_rfl) rfl)
      have K19 := Aside0.mk (blk_drew (blk_below K12.out HV.out.2))
      have K29 := Aside0.mk (blk_drew (blk_below K2.out HV.out.2))
      have HBW := Aside0.mk (below_then HB2.out HB2.out.size HV.out.2)
      have HCW := Aside0.mk (Kd.C_below (Kd.C_below (Kd.C_below HR.out HB2.out) HV.out.2) (below_drew (Below.refl _ _)))
      have hl0 : 0 < l.length := by omega
      clear HV hall hmg hf hm0 hp0 hokq hs ha hb
      go_wp2_with fail
      refine start_ (n := 14) (S := fun w' => w'.cell? ⟨g1, 0, none⟩ = some (.slice (some ad) l.length c0) ∧ w'.cell? ad = some (.int .i64 (a : Int)) ∧ w'.cell? ⟨ad.block, ad.off + 1, none⟩ = some (.int .i64 (b : Int))) (ds := [12]) #[false, false, false, false, false, false, false, false, false, false, false, false, false, false] (by kernel_rfl) rfl rfl ⟨((blk_cell K19.out 0).trans rfl), hz0, hz1⟩ (fun hHeld => ?_)
      refine pure_ (i := 10) (N := some 59) (v := ?_) (a' := ?_) #[false, false, false, false, false, false, false, false, false, false, true, false, false, false] rfl rfl (by kernel_rfl) (fun _ _ _ h => h) (Or.inl ⟨by rfl, ?_⟩) ?_ ?_
      rotate_left
      · intro w'
        go_simp
        with_reducible rfl
      rotate_left
      · simp only [Act.put, List.setIfInBounds_toArray, List.set_cons_zero, List.set_cons_succ, i64_w, i32_w]
        rfl
      refine take_ (i := 0) (N := some 49) (v := ?_) (a' := ?_) #[true, false, false, false, false, false, false, false, false, false, true, false, false, false] rfl rfl (by kernel_rfl) (fun _ _ _ h => h) (Or.inl ⟨by rfl, ?_⟩) hHeld ?_ ?_
      rotate_left
      · rintro w' ⟨s0, s1, s2⟩
        go_simp
        with_reducible rfl
      rotate_left
      · simp only [Act.put, List.setIfInBounds_toArray, List.set_cons_zero, List.set_cons_succ, i64_w, i32_w]
        rfl
      refine pure_ (i := 1) (N := some 50) (v := ?_) (a' := ?_) #[true, true, false, false, false, false, false, false, false, false, true, false, false, false] rfl rfl (by kernel_rfl) (fun _ _ _ h => h) (Or.inl ⟨by rfl, ?_⟩) ?_ ?_
      rotate_left
      · intro w'
        go_simp
        with_reducible rfl
      rotate_left
      · simp only [Act.put, List.setIfInBounds_toArray, List.set_cons_zero, List.set_cons_succ, i64_w, i32_w]
        rfl
      refine pure_ (i := 2) (N := some 51) (v := ?_) (a' := ?_) #[true, true, true, false, false, false, false, false, false, false, true, false, false, false] rfl rfl (by kernel_rfl) (fun _ _ _ h => h) (Or.inl ⟨by rfl, ?_⟩) ?_ ?_
      rotate_left
      · intro w'
        go_simp
        with_reducible rfl
      rotate_left
      · simp only [Act.put, List.setIfInBounds_toArray, List.set_cons_zero, List.set_cons_succ, i64_w, i32_w]
        rfl
      refine take_ (i := 3) (N := some 52) (v := ?_) (a' := ?_) #[true, true, true, true, false, false, false, false, false, false, true, false, false, false] rfl rfl (by kernel_rfl) (fun _ _ _ h => h) (Or.inl ⟨by rfl, ?_⟩) hHeld ?_ ?_
      rotate_left
      · rintro w' ⟨s0, s1, s2⟩
        go_simp
        with_reducible rfl
      rotate_left
      · simp only [Act.put, List.setIfInBounds_toArray, List.set_cons_zero, List.set_cons_succ, i64_w, i32_w]
        rfl
      refine take_ (i := 4) (N := some 53) (v := ?_) (a' := ?_) #[true, true, true, true, true, false, false, false, false, false, true, false, false, false] rfl rfl (by kernel_rfl) (fun _ _ _ h => h) (Or.inl ⟨by rfl, ?_⟩) hHeld ?_ ?_
      rotate_left
      · rintro w' ⟨s0, s1, s2⟩
        go_simp
        with_reducible rfl
      rotate_left
      · simp only [Act.put, List.setIfInBounds_toArray, List.set_cons_zero, List.set_cons_succ, i64_w, i32_w]
        rfl
      refine pure_ (i := 5) (N := some 54) (v := ?_) (a' := ?_) #[true, true, true, true, true, true, false, false, false, false, true, false, false, false] rfl rfl (by kernel_rfl) (fun _ _ _ h => h) (Or.inl ⟨by rfl, ?_⟩) ?_ ?_
      rotate_left
      · intro w'
        go_simp
        with_reducible rfl
      rotate_left
      · simp only [Act.put, List.setIfInBounds_toArray, List.set_cons_zero, List.set_cons_succ, i64_w, i32_w]
        rfl
      refine pure_ (i := 6) (N := some 55) (v := ?_) (a' := ?_) #[true, true, true, true, true, true, true, false, false, false, true, false, false, false] rfl rfl (by kernel_rfl) (fun _ _ _ h => h) (Or.inl ⟨by rfl, ?_⟩) ?_ ?_
      rotate_left
      · intro w'
        go_simp
        with_reducible rfl
      rotate_left
      · simp only [Act.put, List.setIfInBounds_toArray, List.set_cons_zero, List.set_cons_succ, i64_w, i32_w]
        rfl
      refine take_ (i := 7) (N := some 56) (v := ?_) (a' := ?_) #[true, true, true, true, true, true, true, true, false, false, true, false, false, false] rfl rfl (by kernel_rfl) (fun _ _ _ h => h) (Or.inl ⟨by rfl, ?_⟩) hHeld ?_ ?_
      rotate_left
      · rintro w' ⟨s0, s1, s2⟩
        go_simp
        with_reducible rfl
      rotate_left
      · simp only [Act.put, List.setIfInBounds_toArray, List.set_cons_zero, List.set_cons_succ, i64_w, i32_w]
        rfl
      refine take_ (i := 8) (N := some 57) (v := ?_) (a' := ?_) #[true, true, true, true, true, true, true, true, true, false, true, false, false, false] rfl rfl (by kernel_rfl) (fun _ _ _ h => h) (Or.inl ⟨by rfl, ?_⟩) hHeld ?_ ?_
      rotate_left
      · rintro w' ⟨s0, s1, s2⟩
        go_simp
        with_reducible rfl
      rotate_left
      · simp only [Act.put, List.setIfInBounds_toArray, List.set_cons_zero, List.set_cons_succ, i64_w, i32_w]
        rfl
      refine pure_ (i := 9) (N := some 58) (v := ?_) (a' := ?_) #[true, true, true, true, true, true, true, true, true, true, true, false, false, false] rfl rfl (by kernel_rfl) (fun _ _ _ h => h) (Or.inl ⟨by rfl, ?_⟩) ?_ ?_
      rotate_left
      · intro w'
        go_simp
        with_reducible rfl
      rotate_left
      · simp only [Act.put, List.setIfInBounds_toArray, List.set_cons_zero, List.set_cons_succ, i64_w, i32_w]
        rfl
      refine one_ (i := 11) (N := some 60) #[true, true, true, true, true, true, true, true, true, true, true, true, false, false] rfl rfl (by kernel_rfl) (by decide) (fun K hK => ?_)
      refine goes_ Try.func107 (by kernel_rfl) rfl #[.int .i64 (a : Int), .int .i64 (b : Int), .int .i64 (l.length : Int), .func (.func 112) #[] #[.pointer (some ⟨g1, 0, none⟩)]] (by rfl) rfl rfl (by simp only [List.map_toArray, List.map_cons, List.map_nil]; rfl) ?_
      refine (imageBy_calls 112 #[.pointer (some ⟨g1, 0, none⟩)] (mergePx l) a b (l.length : Int) ha16 hb16 wr.drew EG.out HPL.out (fun W x y hx hy hW => merge1_calls l (some ad) c0 (a : Int) (b : Int) HOK.out hn4 x y (by omega) (by omega) g1 W (blk_below K19.out hW) (Kd.C_below HCW.out hW))).mono ?_
      rintro e w7 ⟨v7, rfl, hr7, hb7⟩
      refine ⟨_, rfl, ?_⟩
      have K27 := Aside0.mk (blk_below (w := wr.drew) K29.out hb7)
      have K17 := Aside0.mk (blk_below (w := wr.drew) K19.out hb7)
      have HB7 := Aside0.mk (below_then (below_drew HBW.out) (below_drew HBW.out).size hb7)
      have HR7 := Aside0.mk (Kd.R_lower hr7 (below_drew HBW.out).size)
      have hz07 := (bcell wr hb7 hz0)
      have hz17 := (bcell wr hb7 hz1)
      obtain ⟨A7, c7, ev7⟩ := Kd.R_slice HR7.out
      subst ev7
      clear hr7 hb7
      refine hK.out _ _ ⟨((blk_cell K17.out 0).trans rfl), hz07, hz17⟩ (fun hHeld => ?_)
      clear hK K
      refine norm_ (a' := ?_) ?_ ?_
      rotate_left
      · show Act.put _ (some 60) _ = _
        simp only [Act.put, List.setIfInBounds_toArray, List.set_cons_zero, List.set_cons_succ, i64_w, i32_w]
        rfl
      refine last_ (i := 12) (N := none) #[true, true, true, true, true, true, true, true, true, true, true, true, true, false] rfl rfl (by kernel_rfl) (by decide) (fun K hK => ?_)
      have fc0 : w7.cell? ⟨g2, 0, none⟩ = some (.int .i64 0) := (blk_cell K27.out 0).trans rfl
      have fc1 : w7.cell? ⟨g2, 1, none⟩ = some (.int .i64 0) := (blk_cell K27.out 1).trans rfl
      have fc2 : w7.cell? ⟨g2, 2, none⟩ = some (.int .i64 0) := (blk_cell K27.out 2).trans rfl
      have fc3 : w7.cell? ⟨g2, 3, none⟩ = some (.slice none 0 0) := (blk_cell K27.out 3).trans rfl
      have yc0 := blk_frozen K27.out 0
      have yc1 := blk_frozen K27.out 1
      have yc2 := blk_frozen K27.out 2
      have yc3 := blk_frozen K27.out 3
      refine skip_ (w1 := ?_) (by rfl) rfl ?_ ?_
      rotate_left
      · go_simp
        rfl
      refine hK.out _ _ ?_
      clear hK K
      refine pure_ (i := 13) (N := some 3) (v := ?_) (a' := ?_) #[true, true, true, true, true, true, true, true, true, true, true, true, true, true] rfl rfl (by kernel_rfl) (fun _ _ _ h => h) (Or.inl ⟨by rfl, ?_⟩) ?_ ?_
      rotate_left
      · intro w'
        go_simp
        with_reducible rfl
      rotate_left
      · simp only [Act.put, List.setIfInBounds_toArray, List.set_cons_zero, List.set_cons_succ, i64_w, i32_w]
        rfl
      refine done_ (by kernel_rfl) ?_
      go_wp2
      have G2 := Gg2.out
      have RR := Kd.R_types HR7.out K27.out (by decide)
      refine bodyPost_ret (results_ct rfl _ _ g2 27 #[.int .i64 (a : Int), .int .i64 (b : Int), .int .i64 (l.length : Int), .slice A7 (imgD (mergePx l) a b).length c7] (0, 0) _ rfl (by
        refine blk_put (cs := #[.int .i64 (a : Int), .int .i64 (b : Int), .int .i64 (l.length : Int), .slice none 0 0]) ?_ 3 _ rfl
        refine blk_put (cs := #[.int .i64 (a : Int), .int .i64 (b : Int), .int .i64 0, .slice none 0 0]) ?_ 2 _ rfl
        refine blk_put (cs := #[.int .i64 (a : Int), .int .i64 0, .int .i64 0, .slice none 0 0]) ?_ 1 _ rfl
        refine blk_put (cs := #[.int .i64 0, .int .i64 0, .int .i64 0, .slice none 0 0]) ?_ 0 _ rfl
        exact K27.out
        ) huo rfl (by kernel_rfl)) rfl ?_
      exact ⟨_, rfl, Kd.R_mono (Kd.R_far (Kd.R_far (Kd.R_far (Kd.R_far RR (fun k hk => hk.2) _) (fun k hk => hk.2) _) (fun k hk => hk.2) _) (fun k hk => hk.2) _) (fun _ _ => trivial), below_set (below_set (below_set (below_set HB7.out (by omega)) (by omega)) (by omega)) (by omega)⟩
theorem impl_MergePlanes.calls (A0 : Option Addr) (c0 : Nat) (l : List S27) (r1 r2 r3 : Int) (r4 : List Int) (r5 : Bool) (w : World) (hr0 : Kd.C k27 w A0 l.length l) (hc0 : l.length ≤ c0) (h : impl_MergePlanes.f l = some (r1, r2, r3, r4, r5)) :
    Calls Try.prog 56 #[.slice A0 l.length c0] w fun e w' => ∃ v3_ : Value, e = .returned (.tuple #[.agg #[.int .i64 r1, .int .i64 r2, .int .i64 r3, v3_], .bool r5]) ∧ Kd.R (Kd.int .i64) 3 w' w.heap.size (fun _ => True) v3_ r4 ∧ Below w.heap.size w w' := by
  by_cases h1 : l.length < 1
  · obtain ⟨rfl, rfl, rfl, rfl, rfl⟩ := merge_no h (by unfold mergeOK; simp; omega)
    exact merge_few A0 c0 l w hr0 hc0 h1
  · by_cases h4 : 4 < l.length
    · obtain ⟨rfl, rfl, rfl, rfl, rfl⟩ := merge_no h (by unfold mergeOK; simp; omega)
      exact merge_many A0 c0 l w hr0 hc0 h4
    · exact merge_mid A0 c0 l w hr0 hc0 (by omega) (by omega) r1 r2 r3 r4 r5 h
end Go.Proofs.Ytnofkbbcbpjhfaa.Q

/- The law FnExactMergePlanes: its walk. -/
namespace Go.Proofs.Ytnofkbbcbpjhfaa.Q
open Go.RowKit Go.Proofs.YtnofkbbcbpjhfaaW.PrintWords Go.Proofs.YtnofkbbcbpjhfaaW.PrintLast Go.Proofs.YtnofkbbcbpjhfaaW.PrintMore
attribute [local go_sem] max2_int min2_int max_two min_two max_three min_three max_four min_four
set_option linter.unusedVariables false
set_option linter.unusedSimpArgs false

def laws_FnExactMergePlanes.Goes (k : Nat) (l0_0 : List S24) : Prop := (∃ s0 : Int, laws_szImageS.f k l0_0 1048576 = some s0 ∧ s0 < 0) ∨ (∃ (s0 : Int) (x0_0 : List S27) (v0 : Int) (v1 : Int) (v2 : Int) (v3 : List Int) (vok : Bool) (k0 : Int) (y0 : List S27) (m : Int) (u : List Int), laws_szImageS.f k l0_0 1048576 = some s0 ∧ ¬ s0 < 0 ∧ laws_toImageS.f k l0_0 = some x0_0 ∧ spec_MergePlanes.f k x0_0 = some (v0, v1, v2, v3, vok) ∧ impl_MergePlanes.f x0_0 = some (v0, v1, v2, v3, vok) ∧ laws_eqImage.f k v0 v1 v2 v3 v0 v1 v2 v3 = some true ∧ laws_eqImageS.f k x0_0 x0_0 = some true ∧ laws_markImageS.f k x0_0 1 = some (k0, y0) ∧ ¬ k0 < 0 ∧ laws_markImage.f k v0 v1 v2 v3 1 = some (m, u) ∧ laws_heldImage.f k v0 v1 v2 u 1 = some m ∧ ¬ m < 0)
noncomputable def laws_FnExactMergePlanes.f (k : Nat) (l0_0 : List S24) : Option Bool := @ite _ (laws_FnExactMergePlanes.Goes k l0_0) (Classical.propDecidable _) (some true) none
theorem laws_FnExactMergePlanes.f_of {k : Nat} {l0_0 : List S24} (h : laws_FnExactMergePlanes.Goes k l0_0) : laws_FnExactMergePlanes.f k l0_0 = some true := by unfold laws_FnExactMergePlanes.f; rw [if_pos h]
set_option maxHeartbeats 8000000 in
set_option maxRecDepth 100000 in
theorem laws_FnExactMergePlanes.big0 (k : Nat) (A0_0 : Option Addr) (c0_0 : Nat) (l0_0 : List S24) (w : World) (hr0 : Kd.C k24 w A0_0 l0_0.length l0_0) (hc0 : l0_0.length ≤ c0_0) (s0 : Int) (hs0 : laws_szImageS.f k l0_0 1048576 = some s0) (hn0 : s0 < 0) : Calls Try.prog 9 #[.slice A0_0 l0_0.length c0_0] w fun e w' => e = .returned (.bool true) ∧ Below w.heap.size w w' := by
  have HC0 := Aside0.mk hc0
  have HR0 := Aside0.mk hr0
  have HB := Aside0.mk (Below.refl w.heap.size w)
  clear hc0 hr0
  have hu0 := Try.underlying27
  have HS0 := Aside0.mk hs0
  have dn0 : decide (s0 < 0) = true := decide_eq_true hn0
  clear hs0 hn0
  go_enter Try.func9, Try.ntmps9
  go_wp2_with (first
    | (go_at_call 53; (with_reducible refine (laws_szImageS.calls k A0_0 c0_0 l0_0 1048576 s0 w (Kd.C_below HR0.out HB.out) HC0.out HS0.out).mono ?_); rintro e wz0 ⟨rfl, hb⟩; have HB := Aside0.mk (below_then HB.out HB.out.size hb); clear hb))
  go_ret
  exact ⟨rfl, HB.out⟩
set_option maxHeartbeats 8000000 in
set_option maxRecDepth 100000 in
theorem laws_FnExactMergePlanes.way (k : Nat) (A0_0 : Option Addr) (c0_0 : Nat) (l0_0 : List S24) (w : World) (hr0 : Kd.C k24 w A0_0 l0_0.length l0_0) (hc0 : l0_0.length ≤ c0_0) (s0 : Int) (x0_0 : List S27) (v0 : Int) (v1 : Int) (v2 : Int) (v3 : List Int) (vok : Bool) (k0 : Int) (y0 : List S27) (m : Int) (u : List Int) (HS0 : laws_szImageS.f k l0_0 1048576 = some s0) (HN0 : ¬ s0 < 0) (HT0 : laws_toImageS.f k l0_0 = some x0_0) (HSP : spec_MergePlanes.f k x0_0 = some (v0, v1, v2, v3, vok)) (HIM : impl_MergePlanes.f x0_0 = some (v0, v1, v2, v3, vok)) (HEV : laws_eqImage.f k v0 v1 v2 v3 v0 v1 v2 v3 = some true) (HE0 : laws_eqImageS.f k x0_0 x0_0 = some true) (HM0 : laws_markImageS.f k x0_0 1 = some (k0, y0)) (HKN : ¬ k0 < 0) (HMR : laws_markImage.f k v0 v1 v2 v3 1 = some (m, u)) (HHR : laws_heldImage.f k v0 v1 v2 u 1 = some m) (HMN : ¬ m < 0) : Calls Try.prog 9 #[.slice A0_0 l0_0.length c0_0] w fun e w' => e = .returned (.bool true) ∧ Below w.heap.size w w' := by
  have HC0 := Aside0.mk hc0
  have HR0 := Aside0.mk hr0
  have HB := Aside0.mk (Below.refl w.heap.size w)
  clear hc0 hr0
  have hu0 := Try.underlying27
  replace HS0 := Aside0.mk HS0
  replace HN0 := Aside0.mk HN0
  replace HT0 := Aside0.mk HT0
  replace HSP := Aside0.mk HSP
  replace HIM := Aside0.mk HIM
  replace HEV := Aside0.mk HEV
  replace HE0 := Aside0.mk HE0
  replace HM0 := Aside0.mk HM0
  replace HKN := Aside0.mk HKN
  replace HMR := Aside0.mk HMR
  replace HHR := Aside0.mk HHR
  replace HMN := Aside0.mk HMN
  have dn0 : decide (s0 < 0) = false := decide_eq_false HN0.out
  have dk : decide (k0 < 0) = false := decide_eq_false HKN.out
  have dm : decide (m < 0) = false := decide_eq_false HMN.out
  go_enter Try.func9, Try.ntmps9
  go_upto_region 5 with (first
    | (go_at_call 53; (with_reducible refine (laws_szImageS.calls k A0_0 c0_0 l0_0 1048576 s0 w (Kd.C_below HR0.out HB.out) HC0.out HS0.out).mono ?_); rintro e wz0 ⟨rfl, hb⟩; have HB := Aside0.mk (below_then HB.out HB.out.size hb); clear hb))
  have HBSw := Aside0.mk HB.out.size
  go_upto_region 6 with (first
    | (go_at_call 55; (with_reducible refine (laws_toImageS.calls k A0_0 c0_0 l0_0 x0_0 wz0 (Kd.C_below HR0.out HB.out) HC0.out HT0.out).mono ?_); rintro e w1 ⟨vt_, rfl, hr, hb⟩; obtain ⟨At0, ct0, rfl, hl_, hC_⟩ := Kd.S_reads hr; replace HB := Aside0.mk (below_then HB.out HB.out.size hb); have Zw1 := Aside0.mk hb.size; have HT_0 := Aside0.mk hC_; have HL_0 := Aside0.mk hl_; clear hr hb hl_ hC_)
    | (go_at_call 54; (with_reducible refine (spec_MergePlanes.calls k At0 ct0 x0_0 v0 v1 v2 v3 vok w1 HT_0.out HL_0.out HSP.out).mono ?_); rintro e w2 ⟨v_, rfl, hr, hb⟩; obtain ⟨Aw, cw, ev_⟩ := Kd.R_slice hr; subst ev_; have Rw := Aside0.mk (Kd.R_lower (Kd.R_mono (Kd.R_bound hr) (fun k_ hk_ => (⟨hk_.2.1, hk_.2.2.1⟩ : w1.heap.size ≤ k_ ∧ k_ < w2.heap.size))) HB.out.size); replace HB := Aside0.mk (below_then HB.out HB.out.size hb); have Zw2 := Aside0.mk hb.size; clear hr hb HT_0 HL_0))
  obtain ⟨w3, hw3⟩ : ∃ W, W = w2.alloc (.cells #[.int .i64 v0, .int .i64 v1, .int .i64 v2, .slice Aw v3.length cw] 27) := ⟨_, rfl⟩
  obtain ⟨gw, hgw⟩ : ∃ g, g = w2.heap.size := ⟨_, rfl⟩
  rw [← hw3, ← hgw]
  have Kgw := Aside0.mk (show w3.heap[gw]? = some (.cells #[.int .i64 v0, .int .i64 v1, .int .i64 v2, .slice Aw v3.length cw] 27 (0, 0)) from by rw [hw3, hgw]; exact blk_new _ _)
  replace HB := Aside0.mk (show Below w.heap.size w w3 from by rw [hw3]; exact below_alloc HB.out _)
  replace Rw := Aside0.mk (show Kd.R (Kd.int .i64) 3 w3 w.heap.size (fun k_ => w1.heap.size ≤ k_ ∧ k_ < w2.heap.size) (.slice Aw v3.length cw) v3 from by rw [hw3]; exact Kd.R_alloc Rw.out _)
  have Zw3 := Aside0.mk (show w2.heap.size < w3.heap.size from by rw [hw3]; simp [World.size_alloc])
  have Zgw := Aside0.mk (show w2.heap.size ≤ gw from Nat.le_of_eq hgw.symm)
  have ZLgw := Aside0.mk (blk_lt Kgw.out)
  clear hw3 hgw
  go_upto_region 7 with (first
    | (go_at_call 55; (with_reducible refine (laws_toImageS.calls k A0_0 c0_0 l0_0 x0_0 w3 (Kd.C_below HR0.out HB.out) HC0.out HT0.out).mono ?_); rintro e w4 ⟨v_, rfl, hr, hb⟩; obtain ⟨Ax0, cx0, ev_⟩ := Kd.S_slice hr; subst ev_; have Rx0 := Aside0.mk (Kd.S_lower (Kd.S_mono (Kd.S_bound hr) (fun k_ hk_ => (⟨hk_.2.1, hk_.2.2.1⟩ : w3.heap.size ≤ k_ ∧ k_ < w4.heap.size))) HB.out.size); replace HB := Aside0.mk (below_then HB.out HB.out.size hb); replace Kgw := Aside0.mk (blk_below Kgw.out hb); replace Rw := Aside0.mk (Kd.R_below Rw.out hb); have Zw4 := Aside0.mk hb.size; clear hr hb))
  go_upto_region 8 with (first
    | (go_at_call 56; (with_reducible refine (impl_MergePlanes.calls Ax0 cx0 x0_0 v0 v1 v2 v3 vok w4 (Kd.S_reads' Rx0.out).2.2 (Kd.S_reads' Rx0.out).2.1 HIM.out).mono ?_); rintro e w5 ⟨v_, rfl, hr, hb⟩; obtain ⟨Ag, cg, ev_⟩ := Kd.R_slice hr; subst ev_; have Rg := Aside0.mk (Kd.R_lower (Kd.R_mono (Kd.R_bound hr) (fun k_ hk_ => (⟨hk_.2.1, hk_.2.2.1⟩ : w4.heap.size ≤ k_ ∧ k_ < w5.heap.size))) HB.out.size); replace HB := Aside0.mk (below_then HB.out HB.out.size hb); replace Kgw := Aside0.mk (blk_below Kgw.out hb); replace Rw := Aside0.mk (Kd.R_below Rw.out hb); replace Rx0 := Aside0.mk (Kd.S_below Rx0.out hb); have Zw5 := Aside0.mk hb.size; clear hr hb))
  obtain ⟨w6, hw6⟩ : ∃ W, W = w5.alloc (.cells #[.int .i64 v0, .int .i64 v1, .int .i64 v2, .slice Ag v3.length cg] 27) := ⟨_, rfl⟩
  obtain ⟨gg, hgg⟩ : ∃ g, g = w5.heap.size := ⟨_, rfl⟩
  rw [← hw6, ← hgg]
  have Kgg := Aside0.mk (show w6.heap[gg]? = some (.cells #[.int .i64 v0, .int .i64 v1, .int .i64 v2, .slice Ag v3.length cg] 27 (0, 0)) from by rw [hw6, hgg]; exact blk_new _ _)
  replace HB := Aside0.mk (show Below w.heap.size w w6 from by rw [hw6]; exact below_alloc HB.out _)
  replace Kgw := Aside0.mk (show w6.heap[gw]? = some (.cells #[.int .i64 v0, .int .i64 v1, .int .i64 v2, .slice Aw v3.length cw] 27 (0, 0)) from by rw [hw6]; exact blk_alloc Kgw.out _)
  replace Rw := Aside0.mk (show Kd.R (Kd.int .i64) 3 w6 w.heap.size (fun k_ => w1.heap.size ≤ k_ ∧ k_ < w2.heap.size) (.slice Aw v3.length cw) v3 from by rw [hw6]; exact Kd.R_alloc Rw.out _)
  replace Rx0 := Aside0.mk (show Kd.S k27 27 w6 w.heap.size (fun k_ => w3.heap.size ≤ k_ ∧ k_ < w4.heap.size) (.slice Ax0 x0_0.length cx0) x0_0 from by rw [hw6]; exact Kd.S_alloc Rx0.out _)
  replace Rg := Aside0.mk (show Kd.R (Kd.int .i64) 3 w6 w.heap.size (fun k_ => w4.heap.size ≤ k_ ∧ k_ < w5.heap.size) (.slice Ag v3.length cg) v3 from by rw [hw6]; exact Kd.R_alloc Rg.out _)
  have Zw6 := Aside0.mk (show w5.heap.size < w6.heap.size from by rw [hw6]; simp [World.size_alloc])
  have Zgg := Aside0.mk (show w5.heap.size ≤ gg from Nat.le_of_eq hgg.symm)
  have ZLgg := Aside0.mk (blk_lt Kgg.out)
  clear hw6 hgg
  have hbn : (vok != vok) = false := by simp
  have cggw6_0 : w6.cell? ⟨gg, 0, none⟩ = some (.int .i64 v0) := (blk_cell Kgg.out 0).trans rfl; have cggw6_1 : w6.cell? ⟨gg, 1, none⟩ = some (.int .i64 v1) := (blk_cell Kgg.out 1).trans rfl; have cggw6_2 : w6.cell? ⟨gg, 2, none⟩ = some (.int .i64 v2) := (blk_cell Kgg.out 2).trans rfl; have cggw6_3 : w6.cell? ⟨gg, 3, none⟩ = some (.slice Ag v3.length cg) := (blk_cell Kgg.out 3).trans rfl
  have cgww6_0 : w6.cell? ⟨gw, 0, none⟩ = some (.int .i64 v0) := (blk_cell Kgw.out 0).trans rfl; have cgww6_1 : w6.cell? ⟨gw, 1, none⟩ = some (.int .i64 v1) := (blk_cell Kgw.out 1).trans rfl; have cgww6_2 : w6.cell? ⟨gw, 2, none⟩ = some (.int .i64 v2) := (blk_cell Kgw.out 2).trans rfl; have cgww6_3 : w6.cell? ⟨gw, 3, none⟩ = some (.slice Aw v3.length cw) := (blk_cell Kgw.out 3).trans rfl
  go_upto_region 10 with (first
    | (go_at_call 24; (with_reducible refine (laws_eqImage.calls k v0 v1 v2 Ag cg v3 v0 v1 v2 Aw cw v3 true w6 (Kd.R_reads' Rg.out).2.2 (Kd.R_reads' Rg.out).2.1 (Kd.R_reads' Rw.out).2.2 (Kd.R_reads' Rw.out).2.1 HEV.out rfl).mono ?_); rintro e w7 ⟨rfl, hb⟩; replace HB := Aside0.mk (below_then HB.out HB.out.size hb); replace Kgw := Aside0.mk (blk_below Kgw.out hb); replace Kgg := Aside0.mk (blk_below Kgg.out hb); replace Rw := Aside0.mk (Kd.R_below Rw.out hb); replace Rx0 := Aside0.mk (Kd.S_below Rx0.out hb); replace Rg := Aside0.mk (Kd.R_below Rg.out hb); have Zw7 := Aside0.mk hb.size; clear hb))
  try clear cggw6_0 cggw6_1 cggw6_2 cggw6_3 cgww6_0 cgww6_1 cgww6_2 cgww6_3
  go_upto_region 12 with (first
    | (go_at_call 55; (with_reducible refine (laws_toImageS.calls k A0_0 c0_0 l0_0 x0_0 w7 (Kd.C_below HR0.out HB.out) HC0.out HT0.out).mono ?_); rintro e w8 ⟨vt_, rfl, hr, hb⟩; obtain ⟨At_, ct_, rfl, hl_, hC_⟩ := Kd.S_reads hr; replace HB := Aside0.mk (below_then HB.out HB.out.size hb); replace Kgw := Aside0.mk (blk_below Kgw.out hb); replace Kgg := Aside0.mk (blk_below Kgg.out hb); replace Rw := Aside0.mk (Kd.R_below Rw.out hb); replace Rx0 := Aside0.mk (Kd.S_below Rx0.out hb); replace Rg := Aside0.mk (Kd.R_below Rg.out hb); have Zw8 := Aside0.mk hb.size; have HT_ := Aside0.mk hC_; have HL_ := Aside0.mk hl_; clear hr hb hl_ hC_)
    | (go_at_call 57; (with_reducible refine (laws_eqImageS.calls k Ax0 cx0 x0_0 At_ ct_ x0_0 true w8 (Kd.S_reads' Rx0.out).2.2 (Kd.S_reads' Rx0.out).2.1 HT_.out HL_.out HE0.out rfl).mono ?_); rintro e w9 ⟨rfl, hb⟩; replace HB := Aside0.mk (below_then HB.out HB.out.size hb); replace Kgw := Aside0.mk (blk_below Kgw.out hb); replace Kgg := Aside0.mk (blk_below Kgg.out hb); replace Rw := Aside0.mk (Kd.R_below Rw.out hb); replace Rx0 := Aside0.mk (Kd.S_below Rx0.out hb); replace Rg := Aside0.mk (Kd.R_below Rg.out hb); have Zw9 := Aside0.mk hb.size; clear hb HT_ HL_))
  
  have z0_ := Zw1.out; have z1_ := Zw2.out; have z2_ := Zw3.out; have z3_ := Zgw.out; have z4_ := ZLgw.out; have z5_ := Zw4.out; have z6_ := Zw5.out; have z7_ := Zw6.out; have z8_ := Zgg.out; have z9_ := ZLgg.out; have z10_ := Zw7.out; have z11_ := Zw8.out; have z12_ := Zw9.out
  go_upto_region 14 with (first
    | (go_at_call 58; (with_reducible refine (laws_markImageS.calls k (fun k_ => w3.heap.size ≤ k_ ∧ k_ < w4.heap.size) (.slice Ax0 x0_0.length cx0) x0_0 1 k0 y0 w w9 HB.out Rx0.out HM0.out).mono ?_); rintro e w10 ⟨rfl, hr, hb, hK⟩; replace Kgw := Aside0.mk ((hK.2 gw (blk_lt Kgw.out) (by have b_ := blk_lt Kgw.out; rintro ⟨h1_, h2_⟩; omega)).trans Kgw.out); replace Kgg := Aside0.mk ((hK.2 gg (blk_lt Kgg.out) (by have b_ := blk_lt Kgg.out; rintro ⟨h1_, h2_⟩; omega)).trans Kgg.out); replace Rw := Aside0.mk (Kd.R_kept Rw.out hK (by rintro k_ ⟨h1_, h2_⟩ ⟨h3_, h4_⟩; omega)); replace Rg := Aside0.mk (Kd.R_kept Rg.out hK (by rintro k_ ⟨h1_, h2_⟩ ⟨h3_, h4_⟩; omega)); replace HB := Aside0.mk hb; replace Rx0 := Aside0.mk hr; have Zw10 := Aside0.mk hK.1; clear hr hb hK))
  clear z0_ z1_ z2_ z3_ z4_ z5_ z6_ z7_ z8_ z9_ z10_ z11_ z12_
  have cggw10_0 : w10.cell? ⟨gg, 0, none⟩ = some (.int .i64 v0) := (blk_cell Kgg.out 0).trans rfl; have cggw10_1 : w10.cell? ⟨gg, 1, none⟩ = some (.int .i64 v1) := (blk_cell Kgg.out 1).trans rfl; have cggw10_2 : w10.cell? ⟨gg, 2, none⟩ = some (.int .i64 v2) := (blk_cell Kgg.out 2).trans rfl; have cggw10_3 : w10.cell? ⟨gg, 3, none⟩ = some (.slice Ag v3.length cg) := (blk_cell Kgg.out 3).trans rfl
  have cgww10_0 : w10.cell? ⟨gw, 0, none⟩ = some (.int .i64 v0) := (blk_cell Kgw.out 0).trans rfl; have cgww10_1 : w10.cell? ⟨gw, 1, none⟩ = some (.int .i64 v1) := (blk_cell Kgw.out 1).trans rfl; have cgww10_2 : w10.cell? ⟨gw, 2, none⟩ = some (.int .i64 v2) := (blk_cell Kgw.out 2).trans rfl; have cgww10_3 : w10.cell? ⟨gw, 3, none⟩ = some (.slice Aw v3.length cw) := (blk_cell Kgw.out 3).trans rfl
  go_upto_region 16 with (first
    | (go_at_call 24; (with_reducible refine (laws_eqImage.calls k v0 v1 v2 Ag cg v3 v0 v1 v2 Aw cw v3 true w10 (Kd.R_reads' Rg.out).2.2 (Kd.R_reads' Rg.out).2.1 (Kd.R_reads' Rw.out).2.2 (Kd.R_reads' Rw.out).2.1 HEV.out rfl).mono ?_); rintro e w11 ⟨rfl, hb⟩; replace HB := Aside0.mk (below_then HB.out HB.out.size hb); replace Kgw := Aside0.mk (blk_below Kgw.out hb); replace Kgg := Aside0.mk (blk_below Kgg.out hb); replace Rw := Aside0.mk (Kd.R_below Rw.out hb); replace Rg := Aside0.mk (Kd.R_below Rg.out hb); have Zw11 := Aside0.mk hb.size; clear hb))
  try clear cggw10_0 cggw10_1 cggw10_2 cggw10_3 cgww10_0 cgww10_1 cgww10_2 cgww10_3
  have z0_ := Zw1.out; have z1_ := Zw2.out; have z2_ := Zw3.out; have z3_ := Zgw.out; have z4_ := ZLgw.out; have z5_ := Zw4.out; have z6_ := Zw5.out; have z7_ := Zw6.out; have z8_ := Zgg.out; have z9_ := ZLgg.out; have z10_ := Zw7.out; have z11_ := Zw8.out; have z12_ := Zw9.out; have z13_ := Zw10.out; have z14_ := Zw11.out
  have cggw11_0 : w11.cell? ⟨gg, 0, none⟩ = some (.int .i64 v0) := (blk_cell Kgg.out 0).trans rfl; have cggw11_1 : w11.cell? ⟨gg, 1, none⟩ = some (.int .i64 v1) := (blk_cell Kgg.out 1).trans rfl; have cggw11_2 : w11.cell? ⟨gg, 2, none⟩ = some (.int .i64 v2) := (blk_cell Kgg.out 2).trans rfl; have cggw11_3 : w11.cell? ⟨gg, 3, none⟩ = some (.slice Ag v3.length cg) := (blk_cell Kgg.out 3).trans rfl
  go_upto_region 18 with (first
    | (go_at_call 31; (with_reducible refine (laws_markImage.calls k v0 v1 v2 (fun k_ => w4.heap.size ≤ k_ ∧ k_ < w5.heap.size) (.slice Ag v3.length cg) v3 1 m u w w11 HB.out Rg.out HMR.out).mono ?_); rintro e w12 ⟨rfl, hr, hb, hK⟩; replace Kgw := Aside0.mk ((hK.2 gw (blk_lt Kgw.out) (by have b_ := blk_lt Kgw.out; rintro ⟨h1_, h2_⟩; omega)).trans Kgw.out); replace Kgg := Aside0.mk ((hK.2 gg (blk_lt Kgg.out) (by have b_ := blk_lt Kgg.out; rintro ⟨h1_, h2_⟩; omega)).trans Kgg.out); replace Rw := Aside0.mk (Kd.R_kept Rw.out hK (by rintro k_ ⟨h1_, h2_⟩ ⟨h3_, h4_⟩; omega)); replace HB := Aside0.mk hb; replace Rg := Aside0.mk hr; have Zw12 := Aside0.mk hK.1; clear hr hb hK))
  try clear cggw11_0 cggw11_1 cggw11_2 cggw11_3
  clear z0_ z1_ z2_ z3_ z4_ z5_ z6_ z7_ z8_ z9_ z10_ z11_ z12_ z13_ z14_
  have eu := Aside0.mk (Kd.R_reads' Rg.out).1
  replace Kgg := Aside0.mk (show w12.heap[gg]? = some (.cells #[.int .i64 v0, .int .i64 v1, .int .i64 v2, .slice Ag u.length cg] 27 (0, 0)) from by rw [← eu.out]; exact Kgg.out)
  replace Rg := Aside0.mk (show Kd.R (Kd.int .i64) 3 w12 w.heap.size (fun k_ => 0 ≤ k_ ∧ k_ < w12.heap.size) (.slice Ag u.length cg) u from by rw [← eu.out]; exact Kd.R_mono (Kd.R_bound Rg.out) (fun k_ hk_ => ⟨Nat.zero_le _, hk_.2.2.1⟩))
  clear eu
  have cggw12_0 : w12.cell? ⟨gg, 0, none⟩ = some (.int .i64 v0) := (blk_cell Kgg.out 0).trans rfl; have cggw12_1 : w12.cell? ⟨gg, 1, none⟩ = some (.int .i64 v1) := (blk_cell Kgg.out 1).trans rfl; have cggw12_2 : w12.cell? ⟨gg, 2, none⟩ = some (.int .i64 v2) := (blk_cell Kgg.out 2).trans rfl; have cggw12_3 : w12.cell? ⟨gg, 3, none⟩ = some (.slice Ag u.length cg) := (blk_cell Kgg.out 3).trans rfl
  go_upto_region 24 with (first
    | (go_at_call 59; (with_reducible refine (laws_heldImage.calls k v0 v1 v2 Ag cg u 1 m w12 (Kd.R_reads' Rg.out).2.2 (Kd.R_reads' Rg.out).2.1 HHR.out).mono ?_); rintro e w13 ⟨rfl, hb⟩; replace HB := Aside0.mk (below_then HB.out HB.out.size hb); replace Kgw := Aside0.mk (blk_below Kgw.out hb); replace Kgg := Aside0.mk (blk_below Kgg.out hb); replace Rw := Aside0.mk (Kd.R_below Rw.out hb); replace Rg := Aside0.mk (Kd.R_below Rg.out hb); have Zw13 := Aside0.mk hb.size; clear hb))
  try clear cggw12_0 cggw12_1 cggw12_2 cggw12_3
  have HBSh := Aside0.mk HB.out.size
  have QKgw := Aside0.mk (show gw < w13.heap.size from blk_lt Kgw.out)
  have QKgg := Aside0.mk (show gg < w13.heap.size from blk_lt Kgg.out)
  go_upto_region 25 with (first
    | (go_at_call 55; (with_reducible refine (laws_toImageS.calls k A0_0 c0_0 l0_0 x0_0 w13 (Kd.C_below HR0.out HB.out) HC0.out HT0.out).mono ?_); rintro e w14 ⟨vt_, rfl, hr, hb⟩; obtain ⟨At0, ct0, rfl, hl_, hC_⟩ := Kd.S_reads hr; replace HB := Aside0.mk (below_then HB.out HB.out.size hb); replace Kgw := Aside0.mk (blk_below Kgw.out hb); replace Kgg := Aside0.mk (blk_below Kgg.out hb); replace Rw := Aside0.mk (Kd.R_below Rw.out hb); replace Rg := Aside0.mk (Kd.R_below Rg.out hb); have Zw14 := Aside0.mk hb.size; have HT_0 := Aside0.mk hC_; have HL_0 := Aside0.mk hl_; clear hr hb hl_ hC_)
    | (go_at_call 56; (with_reducible refine (impl_MergePlanes.calls At0 ct0 x0_0 v0 v1 v2 v3 vok w14 HT_0.out HL_0.out HIM.out).mono ?_); rintro e w15 ⟨v_, rfl, hr, hb⟩; obtain ⟨Ah, ch, ev_⟩ := Kd.R_slice hr; subst ev_; have Rh := Aside0.mk (Kd.R_lower (Kd.R_mono (Kd.R_bound hr) (fun k_ hk_ => (⟨hk_.2.1, hk_.2.2.1⟩ : w14.heap.size ≤ k_ ∧ k_ < w15.heap.size))) HB.out.size); replace HB := Aside0.mk (below_then HB.out HB.out.size hb); replace Kgw := Aside0.mk (blk_below Kgw.out hb); replace Kgg := Aside0.mk (blk_below Kgg.out hb); replace Rw := Aside0.mk (Kd.R_below Rw.out hb); replace Rg := Aside0.mk (Kd.R_below Rg.out hb); have Zw15 := Aside0.mk hb.size; clear hr hb HT_0 HL_0))
  obtain ⟨w16, hw16⟩ : ∃ W, W = w15.alloc (.cells #[.int .i64 v0, .int .i64 v1, .int .i64 v2, .slice Ah v3.length ch] 27) := ⟨_, rfl⟩
  obtain ⟨gh, hgh⟩ : ∃ g, g = w15.heap.size := ⟨_, rfl⟩
  rw [← hw16, ← hgh]
  have Kgh := Aside0.mk (show w16.heap[gh]? = some (.cells #[.int .i64 v0, .int .i64 v1, .int .i64 v2, .slice Ah v3.length ch] 27 (0, 0)) from by rw [hw16, hgh]; exact blk_new _ _)
  replace HB := Aside0.mk (show Below w.heap.size w w16 from by rw [hw16]; exact below_alloc HB.out _)
  replace Kgw := Aside0.mk (show w16.heap[gw]? = some (.cells #[.int .i64 v0, .int .i64 v1, .int .i64 v2, .slice Aw v3.length cw] 27 (0, 0)) from by rw [hw16]; exact blk_alloc Kgw.out _)
  replace Kgg := Aside0.mk (show w16.heap[gg]? = some (.cells #[.int .i64 v0, .int .i64 v1, .int .i64 v2, .slice Ag u.length cg] 27 (0, 0)) from by rw [hw16]; exact blk_alloc Kgg.out _)
  replace Rw := Aside0.mk (show Kd.R (Kd.int .i64) 3 w16 w.heap.size (fun k_ => w1.heap.size ≤ k_ ∧ k_ < w2.heap.size) (.slice Aw v3.length cw) v3 from by rw [hw16]; exact Kd.R_alloc Rw.out _)
  replace Rg := Aside0.mk (show Kd.R (Kd.int .i64) 3 w16 w.heap.size (fun k_ => 0 ≤ k_ ∧ k_ < w12.heap.size) (.slice Ag u.length cg) u from by rw [hw16]; exact Kd.R_alloc Rg.out _)
  replace Rh := Aside0.mk (show Kd.R (Kd.int .i64) 3 w16 w.heap.size (fun k_ => w14.heap.size ≤ k_ ∧ k_ < w15.heap.size) (.slice Ah v3.length ch) v3 from by rw [hw16]; exact Kd.R_alloc Rh.out _)
  have Zw16 := Aside0.mk (show w15.heap.size < w16.heap.size from by rw [hw16]; simp [World.size_alloc])
  have Zgh := Aside0.mk (show w15.heap.size ≤ gh from Nat.le_of_eq hgh.symm)
  have ZLgh := Aside0.mk (blk_lt Kgh.out)
  clear hw16 hgh
  have cghw16_0 : w16.cell? ⟨gh, 0, none⟩ = some (.int .i64 v0) := (blk_cell Kgh.out 0).trans rfl; have cghw16_1 : w16.cell? ⟨gh, 1, none⟩ = some (.int .i64 v1) := (blk_cell Kgh.out 1).trans rfl; have cghw16_2 : w16.cell? ⟨gh, 2, none⟩ = some (.int .i64 v2) := (blk_cell Kgh.out 2).trans rfl; have cghw16_3 : w16.cell? ⟨gh, 3, none⟩ = some (.slice Ah v3.length ch) := (blk_cell Kgh.out 3).trans rfl
  have cgww16_0 : w16.cell? ⟨gw, 0, none⟩ = some (.int .i64 v0) := (blk_cell Kgw.out 0).trans rfl; have cgww16_1 : w16.cell? ⟨gw, 1, none⟩ = some (.int .i64 v1) := (blk_cell Kgw.out 1).trans rfl; have cgww16_2 : w16.cell? ⟨gw, 2, none⟩ = some (.int .i64 v2) := (blk_cell Kgw.out 2).trans rfl; have cgww16_3 : w16.cell? ⟨gw, 3, none⟩ = some (.slice Aw v3.length cw) := (blk_cell Kgw.out 3).trans rfl
  go_upto_region 27 with (first
    | (go_at_call 24; (with_reducible refine (laws_eqImage.calls k v0 v1 v2 Ah ch v3 v0 v1 v2 Aw cw v3 true w16 (Kd.R_reads' Rh.out).2.2 (Kd.R_reads' Rh.out).2.1 (Kd.R_reads' Rw.out).2.2 (Kd.R_reads' Rw.out).2.1 HEV.out rfl).mono ?_); rintro e w17 ⟨rfl, hb⟩; replace HB := Aside0.mk (below_then HB.out HB.out.size hb); replace Kgw := Aside0.mk (blk_below Kgw.out hb); replace Kgg := Aside0.mk (blk_below Kgg.out hb); replace Kgh := Aside0.mk (blk_below Kgh.out hb); replace Rw := Aside0.mk (Kd.R_below Rw.out hb); replace Rg := Aside0.mk (Kd.R_below Rg.out hb); replace Rh := Aside0.mk (Kd.R_below Rh.out hb); have Zw17 := Aside0.mk hb.size; clear hb))
  try clear cghw16_0 cghw16_1 cghw16_2 cghw16_3 cgww16_0 cgww16_1 cgww16_2 cgww16_3
  have cggw17_0 : w17.cell? ⟨gg, 0, none⟩ = some (.int .i64 v0) := (blk_cell Kgg.out 0).trans rfl; have cggw17_1 : w17.cell? ⟨gg, 1, none⟩ = some (.int .i64 v1) := (blk_cell Kgg.out 1).trans rfl; have cggw17_2 : w17.cell? ⟨gg, 2, none⟩ = some (.int .i64 v2) := (blk_cell Kgg.out 2).trans rfl; have cggw17_3 : w17.cell? ⟨gg, 3, none⟩ = some (.slice Ag u.length cg) := (blk_cell Kgg.out 3).trans rfl
  go_wp2_with (first
    | (go_at_call 59; (with_reducible refine (laws_heldImage.calls k v0 v1 v2 Ag cg u 1 m w17 (Kd.R_reads' Rg.out).2.2 (Kd.R_reads' Rg.out).2.1 HHR.out).mono ?_); rintro e w18 ⟨rfl, hb⟩; replace HB := Aside0.mk (below_then HB.out HB.out.size hb); replace Kgw := Aside0.mk (blk_below Kgw.out hb); replace Kgg := Aside0.mk (blk_below Kgg.out hb); replace Kgh := Aside0.mk (blk_below Kgh.out hb); replace Rw := Aside0.mk (Kd.R_below Rw.out hb); replace Rg := Aside0.mk (Kd.R_below Rg.out hb); replace Rh := Aside0.mk (Kd.R_below Rh.out hb); have Zw18 := Aside0.mk hb.size; clear hb))
  go_ret
  exact ⟨rfl, HB.out⟩
theorem laws_FnExactMergePlanes.calls (k : Nat) (A0_0 : Option Addr) (c0_0 : Nat) (l0_0 : List S24) (r : Bool) (w : World) (hr0 : Kd.C k24 w A0_0 l0_0.length l0_0) (hc0 : l0_0.length ≤ c0_0) (h : laws_FnExactMergePlanes.f k l0_0 = some r) : Calls Try.prog 9 #[.slice A0_0 l0_0.length c0_0] w fun e w' => e = .returned (.bool r) ∧ Below w.heap.size w w' := by
  unfold laws_FnExactMergePlanes.f at h
  by_cases hg : laws_FnExactMergePlanes.Goes k l0_0
  · rw [if_pos hg] at h
    obtain rfl : true = r := Option.some.inj h
    clear h
    unfold laws_FnExactMergePlanes.Goes at hg
    rcases hg with ⟨s0, hs0, hn0⟩ | ⟨s0, x0_0, v0, v1, v2, v3, vok, k0, y0, m, u, HS0, HN0, HT0, HSP, HIM, HEV, HE0, HM0, HKN, HMR, HHR, HMN⟩
    · exact laws_FnExactMergePlanes.big0 k A0_0 c0_0 l0_0 w hr0 hc0 s0 hs0 hn0
    · exact laws_FnExactMergePlanes.way k A0_0 c0_0 l0_0 w hr0 hc0 s0 x0_0 v0 v1 v2 v3 vok k0 y0 m u HS0 HN0 HT0 HSP HIM HEV HE0 HM0 HKN HMR HHR HMN
  · rw [if_neg hg] at h; cases h

/- The statement over plain lists and numbers that is left of the law FnExactMergePlanes. -/
def laws_FnExactMergePlanes.Pure : Prop := ∀ (l0 : List (S24)), (∀ y ∈ l0, wg24 y) → l0.length ≤ 9223372036854775807 → ∃ k, laws_FnExactMergePlanes.f k l0 = some true
end Go.Proofs.Ytnofkbbcbpjhfaa.Q

/- Images as pixels: lists of numbers cut into equal parts. -/
namespace Go.Proofs.Ytnofkbbcbpjhfaa.Pure
open Go.RowKit Go.Proofs.Ytnofkbbcbpjhfaa.Q Go.Proofs.YtnofkbbcbpjhfaaW.PrintWords Go.Proofs.YtnofkbbcbpjhfaaW.PrintLast Go.Proofs.YtnofkbbcbpjhfaaW.PrintMore
set_option linter.unusedVariables false
set_option linter.unusedSimpArgs false

/-- part i of a list that is cut into parts of n -/
def nx (n : Nat) (d : List Int) (i : Nat) : List Int := (d.drop (i * n)).take n
theorem fm_length (f : Nat → List Int) (n : Nat) : ∀ m, (∀ i, i < m → (f i).length = n) → ((List.range m).flatMap f).length = m * n := by
  intro m
  induction m with
  | zero => intro _; simp
  | succ m ih =>
    intro h
    rw [List.range_succ, List.flatMap_append, List.length_append, ih (fun i hi => h i (by omega))]
    simp [h m (by omega), Nat.add_mul]
theorem fm_get (f : Nat → List Int) (n : Nat) : ∀ m, (∀ i, i < m → (f i).length = n) → ∀ i, i < m → nx n ((List.range m).flatMap f) i = f i := by
  intro m
  induction m with
  | zero => intro _ i hi; omega
  | succ m ih =>
    intro h i hi
    have hl := fm_length f n m (fun i hi => h i (by omega))
    rw [List.range_succ, List.flatMap_append]
    unfold nx
    by_cases c : i < m
    · have h1 : (i + 1) * n ≤ m * n := Nat.mul_le_mul_right n c
      rw [Nat.add_mul, Nat.one_mul] at h1
      rw [List.drop_append_of_le_length (by omega), List.take_append_of_le_length (by rw [List.length_drop]; omega)]
      exact ih (fun i hi => h i (by omega)) i c
    · have : i = m := by omega
      subst this
      rw [← hl, List.drop_left]
      simp only [List.flatMap_cons, List.flatMap_nil, List.append_nil]
      exact List.take_of_length_le (by rw [h i (by omega)]; exact Nat.le_refl _)
theorem fm_cut (n : Nat) : ∀ (m : Nat) (d : List Int), d.length = m * n → (List.range m).flatMap (nx n d) = d := by
  intro m
  induction m with
  | zero => intro d hd; simp at hd; simp [hd]
  | succ m ih =>
    intro d hd
    rw [Nat.add_mul, Nat.one_mul] at hd
    have h1 : (List.range m).flatMap (nx n d) = (List.range m).flatMap (nx n (d.take (m * n))) := by
      rw [List.flatMap_def, List.flatMap_def]
      congr 1
      refine List.map_congr_left (fun i hi => ?_)
      have hi' := List.mem_range.1 hi
      have h1 : (i + 1) * n ≤ m * n := Nat.mul_le_mul_right n hi'
      rw [Nat.add_mul, Nat.one_mul] at h1
      unfold nx
      rw [List.drop_take, List.take_take, Nat.min_eq_left (by omega)]
    rw [List.range_succ, List.flatMap_append, h1, ih _ (by rw [List.length_take]; omega)]
    simp only [List.flatMap_cons, List.flatMap_nil, List.append_nil]
    unfold nx
    rw [List.take_of_length_le (l := d.drop (m * n)) (by rw [List.length_drop]; omega), List.take_append_drop]
theorem ext_nx {n m : Nat} {d e : List Int} (hd : d.length = m * n) (he : e.length = m * n) (h : ∀ i, i < m → nx n d i = nx n e i) : d = e := by
  rw [← fm_cut n m d hd, ← fm_cut n m e he, List.flatMap_def, List.flatMap_def]
  congr 1
  exact List.map_congr_left (fun i hi => h i (List.mem_range.1 hi))
theorem rowD_length {px : Nat → Nat → List Int} {a n y : Nat} (h : ∀ x, x < a → (px x y).length = n) : (rowD px a y).length = a * n := fm_length _ n a h
theorem imgD_length {px : Nat → Nat → List Int} {a b n : Nat} (h : ∀ x y, x < a → y < b → (px x y).length = n) : (imgD px a b).length = (b * a) * n := by
  rw [Nat.mul_assoc]
  exact fm_length _ (a * n) b (fun y hy => rowD_length (fun x hx => h x y hx hy))
theorem nx_imgD {px : Nat → Nat → List Int} {a b n : Nat} (h : ∀ x y, x < a → y < b → (px x y).length = n) {x y : Nat} (hx : x < a) (hy : y < b) : nx n (imgD px a b) (y * a + x) = px x y := by
  have h1 := fm_get (rowD px a) (a * n) b (fun y hy => rowD_length (fun x hx => h x y hx hy)) y hy
  have h2 := fm_get (fun x => px x y) n a (fun x hx => h x y hx hy) x hx
  have h3 : (x + 1) * n ≤ a * n := Nat.mul_le_mul_right n hx
  rw [Nat.add_mul, Nat.one_mul] at h3
  show nx n ((List.range b).flatMap (rowD px a)) (y * a + x) = px x y
  rw [← h2]
  show _ = nx n (rowD px a y) x
  rw [← h1]
  unfold nx
  rw [List.drop_take, List.take_take, Nat.min_eq_left (by omega), List.drop_drop, Nat.add_mul, Nat.mul_assoc]
/-- where a pixel lies -/
theorem lin_lt {a b x y : Nat} (hx : x < a) (hy : y < b) : y * a + x < b * a := by
  have : (y + 1) * a ≤ b * a := Nat.mul_le_mul_right a hy
  rw [Nat.add_mul, Nat.one_mul] at this
  omega
theorem lin_of {a b i : Nat} (h : i < b * a) : i % a < a ∧ i / a < b ∧ (i / a) * a + i % a = i := by
  have ha : 0 < a := by
    rcases Nat.eq_zero_or_pos a with rfl | h'
    · simp at h
    · exact h'
  refine ⟨Nat.mod_lt _ ha, (Nat.div_lt_iff_lt_mul ha).2 h, ?_⟩
  rw [Nat.mul_comm]; exact Nat.div_add_mod i a
theorem nat_of {a b p : Int} {d : List Int} (hv : validI a b p d = true) : ∃ an bn pn : Nat, a = an ∧ b = bn ∧ p = pn ∧ 1 ≤ an ∧ an ≤ 16 ∧ 1 ≤ bn ∧ bn ≤ 16 ∧ 1 ≤ pn ∧ pn ≤ 4 ∧ d.length = (bn * an) * pn := by
  obtain ⟨hs, hl, _⟩ := (validI_iff a b p d).1 hv
  obtain ⟨an, rfl⟩ := Int.eq_ofNat_of_zero_le (show 0 ≤ a by omega)
  obtain ⟨bn, rfl⟩ := Int.eq_ofNat_of_zero_le (show 0 ≤ b by omega)
  obtain ⟨pn, rfl⟩ := Int.eq_ofNat_of_zero_le (show 0 ≤ p by omega)
  refine ⟨an, bn, pn, rfl, rfl, rfl, by omega, by omega, by omega, by omega, by omega, by omega, ?_⟩
  have : (d.length : Int) = ((an * bn * pn : Nat) : Int) := by rw [hl]; push_cast; rfl
  rw [Nat.mul_comm bn an]
  exact Int.ofNat.inj this
theorem small {an bn pn : Nat} (h1 : an ≤ 16) (h2 : bn ≤ 16) (h3 : pn ≤ 4) : (bn * an) * pn ≤ 1024 := by
  have := Nat.mul_le_mul (Nat.mul_le_mul h2 h1) h3
  omega
theorem pixJ_nat {an bn pn x y : Nat} (h1 : an ≤ 16) (h2 : bn ≤ 16) (h3 : pn ≤ 4) (hx : x < an) (hy : y < bn) : pixJ an pn x y = (((y * an + x) * pn : Nat) : Int) ∧ (y * an + x) * pn + pn ≤ (bn * an) * pn := by
  have hl := lin_lt hx hy
  have hm : (y * an + x + 1) * pn ≤ (bn * an) * pn := Nat.mul_le_mul_right pn hl
  rw [Nat.add_mul, Nat.one_mul] at hm
  have hs := small h1 h2 h3
  have hya : y * an ≤ 16 * 16 := Nat.mul_le_mul (by omega) (by omega)
  refine ⟨?_, hm⟩
  unfold pixJ
  have e1 : ((y : Int) * (an : Int)) = ((y * an : Nat) : Int) := by push_cast; rfl
  rw [e1, w64 (x := ((y * an : Nat) : Int)) (by omega) (by omega)]
  have e2 : ((y * an : Nat) : Int) + (x : Int) = ((y * an + x : Nat) : Int) := by push_cast; rfl
  rw [e2, w64 (x := ((y * an + x : Nat) : Int)) (by omega) (by omega)]
  have e3 : ((y * an + x : Nat) : Int) * (pn : Int) = (((y * an + x) * pn : Nat) : Int) := by push_cast; rfl
  rw [e3, w64 (by omega) (by omega)]
theorem pxAt_nat {an bn pn x y : Nat} (h1 : an ≤ 16) (h2 : bn ≤ 16) (h3 : pn ≤ 4) (hx : x < an) (hy : y < bn) (d : List Int) : pxAt an pn d x y = nx pn d (y * an + x) := by
  obtain ⟨hj, hm⟩ := pixJ_nat h1 h2 h3 hx hy
  have hs := small h1 h2 h3
  unfold pxAt pixT nx
  rw [hj, w64 (by omega) (by omega)]
  have : ((((y * an + x) * pn : Nat) : Int) + (pn : Int)).toNat = (y * an + x) * pn + pn := by omega
  rw [this, Int.toNat_natCast, List.drop_take]
  congr 1
  omega

/- What the reference does with pixels: reads, writes, parts and pastes. -/

theorem newImg_eq {wn hn pn : Nat} (h1 : wn ≤ 16) (h2 : hn ≤ 16) (h3 : pn ≤ 4) : spec_newImage.f wn hn pn = some ((wn : Int), (hn : Int), (pn : Int), List.replicate ((hn * wn) * pn) 0) := by
  have hs := small h1 h2 h3
  have hw : hn * wn ≤ 16 * 16 := Nat.mul_le_mul h2 h1
  have e1 : (wn : Int) * (hn : Int) = ((hn * wn : Nat) : Int) := by rw [Nat.mul_comm]; push_cast; rfl
  have e2 : ((hn * wn : Nat) : Int) * (pn : Int) = (((hn * wn) * pn : Nat) : Int) := by push_cast; rfl
  unfold spec_newImage.f
  rw [e1, w64 (x := ((hn * wn : Nat) : Int)) (by omega) (by omega), e2, w64 (by omega) (by omega), if_pos (by omega), Int.toNat_natCast, if_pos (by omega)]

/- Planes together: what the program and the reference make of them is the same. -/

abbrev ImI := S27
theorem rdM (l : List ImI) (i : Nat) (h : i < l.length) : rd_T27 l (i : Int) = l[i] := by simp [rd_T27, h]
def mergeV (l : List ImI) : Int × Int × Int × List Int × Bool := if mergeOK l = true then ((rd_T27 l 0).f0, (rd_T27 l 0).f1, (l.length : Int), imgD (mergePx l) (rd_T27 l 0).f0.toNat (rd_T27 l 0).f1.toNat, true) else (0, 0, 0, [], false)
theorem impl_Merge_eq (l : List ImI) : impl_MergePlanes.f l = some (mergeV l) := rfl
/-- number j of the merged image -/
def mval (l : List ImI) (j : Nat) : Int := rd (rd_T27 l ((j % l.length : Nat) : Int)).f3 ((j / l.length : Nat) : Int)
theorem mergePx_map {an bn : Nat} {l : List ImI} (h : ∀ m ∈ l, planeOK (an : Int) (bn : Int) m) {x y : Nat} (hx : x < an) (hy : y < bn) : mergePx l x y = l.map (fun m => rd m.f3 ((y * an + x : Nat) : Int)) := by
  induction l with
  | nil => rfl
  | cons m ms ih =>
    have h1 := ih (fun q hq => h q (by simp [hq]))
    obtain ⟨p1, p2, p3, p4⟩ := h m (by simp)
    have hs := ((validI_iff _ _ _ _).1 p1).1
    obtain ⟨an', bn', pn', e1, e2, e3, _, _, _, _, _, _, hlen⟩ := nat_of p1
    have e1' : an' = an := by omega
    have e2' : bn' = bn := by omega
    have e3' : pn' = 1 := by omega
    subst e1' e2' e3'
    have hp : pxAt m.f0 m.f2 m.f3 x y = [rd m.f3 ((y * an' + x : Nat) : Int)] := by
      rw [e1, e3, pxAt_nat (by omega) (by omega) (by omega) hx hy]
      have hlt := lin_lt hx hy
      unfold nx
      rw [Nat.mul_one, List.drop_eq_getElem_cons (by omega), rd_nat _ _ (by omega)]
      rfl
    unfold mergePx at h1 ⊢
    rw [List.map_cons, List.flatten_cons, h1, hp, List.map_cons]
    rfl
theorem merge_list {an bn : Nat} {l : List ImI} (hn : 1 ≤ l.length) (h : ∀ m ∈ l, planeOK (an : Int) (bn : Int) m) : imgD (mergePx l) an bn = (List.range ((bn * an) * l.length)).map (mval l) := by
  have hl : ∀ x y, x < an → y < bn → (mergePx l x y).length = l.length := fun x y hx hy => by rw [mergePx_map h hx hy, List.length_map]
  refine ext_nx (n := l.length) (m := bn * an) (imgD_length hl) (by simp) (fun j hj => ?_)
  obtain ⟨h1, h2, h3⟩ := lin_of hj
  have e := nx_imgD hl h1 h2
  rw [h3] at e
  rw [e, mergePx_map h h1 h2, h3]
  have hjn : (j + 1) * l.length ≤ (bn * an) * l.length := Nat.mul_le_mul_right _ hj
  rw [Nat.add_mul, Nat.one_mul] at hjn
  show _ = ((List.map (mval l) (List.range ((bn * an) * l.length))).drop (j * l.length)).take l.length
  refine List.ext_getElem ?_ (fun c hc1 hc2 => ?_)
  · rw [List.length_map, List.length_take, List.length_drop, List.length_map, List.length_range]
    omega
  · rw [List.length_map] at hc1
    simp only [List.getElem_map, List.getElem_take, List.getElem_drop, List.getElem_range]
    unfold mval
    have e1 : (j * l.length + c) % l.length = c := by rw [Nat.mul_comm, Nat.mul_add_mod, Nat.mod_eq_of_lt hc1]
    have e2 : (j * l.length + c) / l.length = j := by rw [Nat.mul_comm, Nat.mul_add_div (by omega), Nat.div_eq_of_lt hc1, Nat.add_zero]
    rw [e1, e2, rdM l c hc1]
theorem fill_ev {an bn : Nat} {l : List ImI} (hn : 1 ≤ l.length) (hn4 : l.length ≤ 4) (ha : an ≤ 16) (hb : bn ≤ 16) (h : ∀ m ∈ l, planeOK (an : Int) (bn : Int) m) (A B C : Int) :
    Ev (fun k => spec_MergePlanes.l1 k l 0 A B C (List.replicate ((bn * an) * l.length) 0)) (A, B, C, imgD (mergePx l) an bn, true) := by
  have hs := small ha hb hn4
  have hba : bn * an ≤ 16 * 16 := Nat.mul_le_mul hb ha
  have key := ev_up ((bn * an) * l.length) (fun k i (D : List Int) => spec_MergePlanes.l1 k l (i : Int) A B C D) (fun i D => D.length = (bn * an) * l.length ∧ D.take i = (List.range i).map (mval l)) (fun _ _ => (A, B, C, imgD (mergePx l) an bn, true))
    (by
      intro i D hi ⟨h1, h2⟩
      have hm : i % l.length < l.length := Nat.mod_lt _ (by omega)
      have hd : i / l.length < bn * an := (Nat.div_lt_iff_lt_mul (by omega)).2 hi
      have hq : (l[i % l.length]'hm).f3.length = bn * an := by
        obtain ⟨p1, p2, p3, p4⟩ := h _ (List.getElem_mem hm)
        obtain ⟨an', bn', pn', e1, e2, e3, _, _, _, _, _, _, hlen⟩ := nat_of p1
        have e1' : an' = an := by omega
        have e2' : bn' = bn := by omega
        have e3' : pn' = 1 := by omega
        rw [hlen, e1', e2', e3', Nat.mul_one]
      have e1 : Int.tmod (i : Int) (l.length : Int) = ((i % l.length : Nat) : Int) := by rw [tmod_nn _ _ (by omega)]; rfl
      have e2 : Int.tdiv (i : Int) (l.length : Int) = ((i / l.length : Nat) : Int) := by rw [tdiv_nn _ _ (by omega)]; rfl
      have hmv : mval l i = rd (rd_T27 l ((i % l.length : Nat) : Int)).f3 ((i / l.length : Nat) : Int) := rfl
      have hqr : (rd_T27 l ((i % l.length : Nat) : Int)).f3.length = bn * an := by rw [rdM l _ hm]; exact hq
      clear hq
      generalize i % l.length = r at hm e1 hmv hqr
      generalize i / l.length = q at hd e2 hmv hqr
      refine .inr ⟨D.set i (mval l i), fun k => ?_, ⟨by rw [List.length_set]; exact h1, by rw [take_set D i _ (by omega), h2, List.range_succ, List.map_append]; rfl⟩, rfl⟩
      simp only [spec_MergePlanes.l1]
      rw [if_pos (by omega), if_neg (by omega), e1, e2, w64 (x := (q : Int)) (by omega) (by omega), if_pos (by omega), if_pos (by omega), if_pos (by omega), if_pos (by omega), if_pos (by omega), w64n i (by omega), Int.toNat_natCast, hmv])
    (by
      intro D ⟨h1, h2⟩
      refine Ev.step (f := fun _ => some (A, B, C, D, true)) (fun k => ?_) (ev_const ?_)
      · simp only [spec_MergePlanes.l1]
        rw [if_neg (by omega)]
      · rw [← h1, List.take_length, h1] at h2
        rw [merge_list hn h, h2])
    ((bn * an) * l.length) 0 (List.replicate ((bn * an) * l.length) 0) (by omega) ⟨by simp, by simp⟩
  exact key
theorem merge_zero {l : List ImI} (h : mergeOK l = false) : mergeV l = (0, 0, 0, [], false) := by unfold mergeV; rw [if_neg (by rw [h]; simp)]
theorem spec_Merge_ev (l : List ImI) (hb : ∀ m ∈ l, m.f3.length ≤ 1000000000000) : Ev (fun k => spec_MergePlanes.f k l) (mergeV l) := by
  unfold spec_MergePlanes.f
  have hr : spec_inRange.f (l.length : Int) 1 4 = some (decide (1 ≤ (l.length : Int)) && decide ((l.length : Int) ≤ 4)) := by
    unfold spec_inRange.f; by_cases h : 1 ≤ (l.length : Int) <;> simp [h]
  by_cases hn : 1 ≤ l.length ∧ l.length ≤ 4
  · obtain ⟨hn1, hn4⟩ := hn
    refine ev_now hr (ev_pos (by simp; omega) ?_)
    have key := ev_up2 l.length (fun k i (_ : Unit) => spec_MergePlanes.l0 k l (i : Int)) (fun i _ => ∀ q ∈ l.take i, planeB (rd_T27 l 0).f0 (rd_T27 l 0).f1 q = true) (fun _ _ => mergeV l)
      (by
        intro i _ hi hinv
        have hv := spec_validImage_ev l[i].f0 l[i].f1 l[i].f2 l[i].f3 (hb _ (List.getElem_mem hi))
        have hpb : planeB (rd_T27 l 0).f0 (rd_T27 l 0).f1 l[i] = (validI l[i].f0 l[i].f1 l[i].f2 l[i].f3 && decide (l[i].f2 = 1) && decide (l[i].f0 = (rd_T27 l 0).f0) && decide (l[i].f1 = (rd_T27 l 0).f1)) := rfl
        have st : ∀ r, Ev (fun k => (spec_validImage.f k l[i].f0 l[i].f1 l[i].f2 l[i].f3).bind fun t => (if t = true then (if l[i].f2 = 1 then (if 0 < (l.length : Int) then (if l[i].f0 = (rd_T27 l 0).f0 then (if l[i].f1 = (rd_T27 l 0).f1 then (spec_MergePlanes.l0 k l ((i + 1 : Nat) : Int)) else (some (0, 0, 0, ([] : List Int), false))) else (some (0, 0, 0, ([] : List Int), false))) else (none)) else (some (0, 0, 0, ([] : List Int), false))) else (some (0, 0, 0, ([] : List Int), false)))) r → Ev (fun k => spec_MergePlanes.l0 k l (i : Int)) r := fun r hr => Ev.step (fun k => by
          simp only [spec_MergePlanes.l0]
          rw [if_pos (by omega), if_pos (by omega), rdM l i hi, w64n i (by omega)]) hr
        have bad : planeB (rd_T27 l 0).f0 (rd_T27 l 0).f1 l[i] = false → mergeV l = (0, 0, 0, [], false) := fun hf => merge_zero (merge_bad hi (by rw [rdM l i hi]; exact hf))
        by_cases c1 : validI l[i].f0 l[i].f1 l[i].f2 l[i].f3 = true
        · by_cases c2 : l[i].f2 = 1
          · by_cases c3 : l[i].f0 = (rd_T27 l 0).f0
            · by_cases c4 : l[i].f1 = (rd_T27 l 0).f1
              · right
                refine ⟨(), fun r hr => st r (ev_bind hv (ev_pos c1 (ev_pos c2 (ev_pos (by omega) (ev_pos c3 (ev_pos c4 hr)))))), fun q hq => ?_, rfl⟩
                rw [List.take_succ_eq_append_getElem hi, List.mem_append, List.mem_singleton] at hq
                rcases hq with hq | hq
                · exact hinv q hq
                · rw [hq, hpb, c1, decide_eq_true c2, decide_eq_true c3, decide_eq_true c4]; rfl
              · left
                show Ev _ (mergeV l)
                rw [bad (by rw [hpb]; simp [c4])]
                exact st _ (ev_bind hv (ev_pos c1 (ev_pos c2 (ev_pos (by omega) (ev_pos c3 (ev_neg c4 (Ev.now _)))))))
            · left
              show Ev _ (mergeV l)
              rw [bad (by rw [hpb]; simp [c3])]
              exact st _ (ev_bind hv (ev_pos c1 (ev_pos c2 (ev_pos (by omega) (ev_neg c3 (Ev.now _))))))
          · left
            show Ev _ (mergeV l)
            rw [bad (by rw [hpb]; simp [c2])]
            exact st _ (ev_bind hv (ev_pos c1 (ev_neg c2 (Ev.now _))))
        · left
          show Ev _ (mergeV l)
          rw [bad (by rw [hpb]; simp [c1])]
          exact st _ (ev_bind hv (ev_neg c1 (Ev.now _))))
      (by
        intro _ hinv
        rw [List.take_of_length_le (Nat.le_refl _)] at hinv
        have hmg : mergeOK l = true := by unfold mergeOK; rw [List.all_eq_true.2 hinv]; simp; omega
        have hok : ∀ q ∈ l, planeOK (rd_T27 l 0).f0 (rd_T27 l 0).f1 q := fun q hq => planeB_ok (hinv q hq)
        have hm0 : rd_T27 l 0 ∈ l := by rw [show rd_T27 l 0 = l[0] from rdM l 0 (by omega)]; exact List.getElem_mem _
        have hsz := ((validI_iff _ _ _ _).1 (hok _ hm0).1).1
        unfold mergeV
        rw [if_pos hmg]
        obtain ⟨an, ea⟩ := Int.eq_ofNat_of_zero_le (show 0 ≤ (rd_T27 l 0).f0 by omega)
        obtain ⟨bn, eb⟩ := Int.eq_ofNat_of_zero_le (show 0 ≤ (rd_T27 l 0).f1 by omega)
        rw [ea, eb] at hok
        have hnw : spec_newImage.f (rd_T27 l 0).f0 (rd_T27 l 0).f1 (l.length : Int) = some ((an : Int), (bn : Int), (l.length : Int), List.replicate ((bn * an) * l.length) 0) := by rw [ea, eb]; exact newImg_eq (by omega) (by omega) hn4
        refine Ev.step (f := fun k => (spec_newImage.f (rd_T27 l 0).f0 (rd_T27 l 0).f1 (l.length : Int)).bind fun t => spec_MergePlanes.l1 k l 0 t.1 t.2.1 t.2.2.1 t.2.2.2) (fun k => ?_) (ev_now hnw ?_)
        · simp only [spec_MergePlanes.l0]
          rw [if_neg (by omega), if_pos (by omega)]
        · rw [ea, eb, Int.toNat_natCast, Int.toNat_natCast]
          exact fill_ev hn1 hn4 (by omega) (by omega) hok _ _ _)
      l.length 0 () (by omega) (by simp)
    exact key
  · rw [merge_zero (by unfold mergeOK; simp; omega)]
    exact ev_now hr (ev_neg (by simp; omega) (Ev.now _))
theorem mergeV_len (l : List ImI) : (mergeV l).2.2.2.1.length ≤ 1024 := by
  unfold mergeV
  by_cases h : mergeOK l = true
  · rw [if_pos h]
    unfold mergeOK at h
    simp only [Bool.and_eq_true, decide_eq_true_eq, List.all_eq_true] at h
    obtain ⟨⟨h1, h4⟩, hall⟩ := h
    have hok : ∀ q ∈ l, planeOK (rd_T27 l 0).f0 (rd_T27 l 0).f1 q := fun q hq => planeB_ok (hall q hq)
    have hm0 : rd_T27 l 0 ∈ l := by rw [show rd_T27 l 0 = l[0] from rdM l 0 (by omega)]; exact List.getElem_mem _
    have hsz := ((validI_iff _ _ _ _).1 (hok _ hm0).1).1
    obtain ⟨an, ea⟩ := Int.eq_ofNat_of_zero_le (show 0 ≤ (rd_T27 l 0).f0 by omega)
    obtain ⟨bn, eb⟩ := Int.eq_ofNat_of_zero_le (show 0 ≤ (rd_T27 l 0).f1 by omega)
    rw [ea, eb] at hok
    rw [ea, eb, Int.toNat_natCast, Int.toNat_natCast]
    show (imgD (mergePx l) an bn).length ≤ 1024
    rw [merge_list h1 hok, List.length_map, List.length_range]
    exact small (by omega) (by omega) h4
  · rw [if_neg h]
    simp

/- The program's MergePlanes and the reference's return the same, and what is returned is held by nobody else: over lists of numbers alone. -/

theorem FnExactMergePlanes : laws_FnExactMergePlanes.Pure := by
  intro l
  intros
  rename_i hwf hll
  have hb : ∀ s ∈ l, lenL s ≤ 9223372036854775807 := fun s hs => (hwf s hs).2.2.2.2
  obtain ⟨m, ⟨K0, e0⟩, hm⟩ := szRow_ev l hll hb 1048576 (by omega) (by omega)
  by_cases cm : m < 0
  · exact ⟨K0, laws_FnExactMergePlanes.f_of (Or.inl ⟨_, e0 _ (by omega), cm⟩)⟩
  · obtain ⟨_, _, hl1, hsum⟩ := hm.resolve_left cm
    have hb2 : ∀ s ∈ l, lenL s ≤ 1048576 := fun s hs => Nat.le_trans (len_sum l s hs) hsum
    obtain ⟨K2, e2⟩ := toRow_ev l (by omega) (fun s hs => by have := hb2 s hs; omega)
    have hcl : (l.map cRow).length ≤ 1048576 := by rw [List.length_map]; exact hl1
    have hcb : ∀ s ∈ l.map cRow, lenI s ≤ 1048576 := fun s hs => by
      obtain ⟨x, hx, rfl⟩ := List.mem_map.1 hs
      exact hb2 x hx
    have htot : totI (l.map cRow) ≤ 9500000 := by rw [tot_c]; omega
    generalize l.map cRow = c at e2 hcl hcb htot
    obtain ⟨K4, e4⟩ := spec_Merge_ev c (fun s hs => by have h_ := hcb s hs; unfold lenI at h_; omega)
    have e5 := impl_Merge_eq c
    have hVl := mergeV_len c
    generalize mergeV c = V at e4 e5 hVl
    obtain ⟨v0, v1, v2, v3, vok⟩ := V
    have hVl : v3.length ≤ 1024 := hVl
    obtain ⟨K6, e6⟩ := eqImage_ev v0 v1 v2 v3 (by omega)
    obtain ⟨K8, e8⟩ := eqRow_ev c (by omega) (fun s hs => by have := hcb s hs; omega)
    obtain ⟨k1, y1, hk1, ⟨K11, e11⟩⟩ := markRow_ev c 1 hcl (by omega) (by omega) (by omega)
    obtain ⟨K13, e13⟩ := markImage_is v0 v1 v2 v3 1 (by omega) (by omega) (by omega)
    obtain ⟨K14, e14⟩ := heldImage_ev v0 v1 v2 v3.length 1 (by omega) (by omega) (by omega)
    refine ⟨K0 + K2 + K4 + K6 + K8 + K11 + K13 + K14 + 1, laws_FnExactMergePlanes.f_of (Or.inr ?_)⟩
    exact ⟨_, c, v0, v1, v2, v3, vok, _, _, _, _, e0 _ (by omega), cm, e2 _ (by omega), e4 _ (by omega), e5, e6 _ (by omega), e8 _ (by omega), e11 _ (by omega), by omega, e13 _ (by omega), e14 _ (by omega), by omega⟩
end Go.Proofs.Ytnofkbbcbpjhfaa.Pure

/- The head of the translation reads as a plain cut. -/
namespace Go.Proofs.Ytnofkbbcbpjhfaa.Head
set_option maxRecDepth 100000
theorem wordsSigns_word (w r : List Char) (h : w.all (fun c => !(c == Char.ofNat 32)) = true) : wordsSigns (w ++ Char.ofNat 32 :: r) = w :: wordsSigns r := by
  induction w with
  | nil => rfl
  | cons c w ih =>
    simp only [List.all_cons, Bool.and_eq_true, Bool.not_eq_true', beq_eq_false_iff_ne, ne_eq] at h
    have h1 := ih (by simpa using h.2)
    rw [List.cons_append, wordsSigns.eq_3 c _ h.1, h1]
def w1 : List Char := [104, 97, 114, 110, 101, 115, 115].map Char.ofNat
def w2 : List Char := [98, 98, 56, 56, 48, 50, 51, 48, 99, 56, 98, 97, 54, 51, 51, 51, 48, 101, 54, 53, 56, 97, 98, 51, 97, 51, 99, 100, 54, 102, 98, 98, 55, 101, 51, 50, 99, 48, 56, 52, 55, 54, 49, 49, 100, 50, 51, 56, 55, 100, 54, 48, 49, 99, 100, 97, 51, 102, 50, 98, 48, 57, 53, 101].map Char.ofNat
def w3 : List Char := [99, 117, 116].map Char.ofNat
def w4 : List Char := [97, 116, 32, 108, 111, 111, 112, 46, 101, 120, 97, 109, 112, 108, 101, 47, 112, 105, 120, 101, 108, 119, 111, 114, 107, 115, 47, 108, 97, 119, 115, 46, 70, 110, 69, 120, 97, 99, 116, 71, 97, 112, 79, 102, 32, 108, 111, 111, 112, 46, 101, 120, 97, 109, 112, 108, 101, 47, 112, 105, 120, 101, 108, 119, 111, 114, 107, 115, 47, 108, 97, 119, 115, 46, 70, 110, 71, 97, 112, 79, 102, 32, 108, 111, 111, 112, 46, 101, 120, 97, 109, 112, 108, 101, 47, 112, 105, 120, 101, 108, 119, 111, 114, 107, 115, 47, 108, 97, 119, 115, 46, 70, 110, 69, 120, 97, 99, 116, 84, 105, 108, 101, 66, 111, 120, 101, 115, 32, 108, 111, 111, 112, 46, 101, 120, 97, 109, 112, 108, 101, 47, 112, 105, 120, 101, 108, 119, 111, 114, 107, 115, 47, 108, 97, 119, 115, 46, 70, 110, 84, 105, 108, 101, 66, 111, 120, 101, 115, 32, 108, 111, 111, 112, 46, 101, 120, 97, 109, 112, 108, 101, 47, 112, 105, 120, 101, 108, 119, 111, 114, 107, 115, 47, 108, 97, 119, 115, 46, 70, 110, 69, 120, 97, 99, 116, 68, 105, 114, 116, 121, 84, 105, 108, 101, 115, 32, 108, 111, 111, 112, 46, 101, 120, 97, 109, 112, 108, 101, 47, 112, 105, 120, 101, 108, 119, 111, 114, 107, 115, 47, 108, 97, 119, 115, 46, 70, 110, 68, 105, 114, 116, 121, 84, 105, 108, 101, 115, 32, 108, 111, 111, 112, 46, 101, 120, 97, 109, 112, 108, 101, 47, 112, 105, 120, 101, 108, 119, 111, 114, 107, 115, 47, 108, 97, 119, 115, 46, 70, 110, 69, 120, 97, 99, 116, 77, 101, 114, 103, 101, 80, 108, 97, 110, 101, 115, 32, 108, 111, 111, 112, 46, 101, 120, 97, 109, 112, 108, 101, 47, 112, 105, 120, 101, 108, 119, 111, 114, 107, 115, 47, 108, 97, 119, 115, 46, 70, 110, 69, 120, 97, 99, 116, 67, 111, 118, 101, 114, 73, 109, 97, 103, 101, 32, 108, 111, 111, 112, 46, 101, 120, 97, 109, 112, 108, 101, 47, 112, 105, 120, 101, 108, 119, 111, 114, 107, 115, 47, 108, 97, 119, 115, 46, 70, 110, 67, 111, 118, 101, 114, 73, 109, 97, 103, 101, 32, 108, 111, 111, 112, 46, 101, 120, 97, 109, 112, 108, 101, 47, 112, 105, 120, 101, 108, 119, 111, 114, 107, 115, 47, 108, 97, 119, 115, 46, 70, 110, 69, 120, 97, 99, 116, 70, 108, 97, 116, 116, 101, 110, 76, 97, 121, 101, 114, 115, 32, 108, 111, 111, 112, 46, 101, 120, 97, 109, 112, 108, 101, 47, 112, 105, 120, 101, 108, 119, 111, 114, 107, 115, 47, 108, 97, 119, 115, 46, 70, 110, 70, 108, 97, 116, 116, 101, 110, 76, 97, 121, 101, 114, 115, 32, 108, 111, 111, 112, 46, 101, 120, 97, 109, 112, 108, 101, 47, 112, 105, 120, 101, 108, 119, 111, 114, 107, 115, 47, 108, 97, 119, 115, 46, 70, 110, 70, 108, 97, 116, 116, 101, 110, 76, 97, 121, 101, 114, 115, 72, 105, 100, 100, 101, 110, 32, 108, 111, 111, 112, 46, 101, 120, 97, 109, 112, 108, 101, 47, 112, 105, 120, 101, 108, 119, 111, 114, 107, 115, 47, 108, 97, 119, 115, 46, 70, 110, 69, 120, 97, 99, 116, 80, 97, 116, 99, 104, 73, 109, 97, 103, 101, 32, 108, 111, 111, 112, 46, 101, 120, 97, 109, 112, 108, 101, 47, 112, 105, 120, 101, 108, 119, 111, 114, 107, 115, 47, 108, 97, 119, 115, 46, 70, 110, 80, 97, 116, 99, 104, 73, 109, 97, 103, 101, 84, 119, 105, 99, 101, 32, 108, 111, 111, 112, 46, 101, 120, 97, 109, 112, 108, 101, 47, 112, 105, 120, 101, 108, 119, 111, 114, 107, 115, 47, 108, 97, 119, 115, 46, 70, 110, 69, 120, 97, 99, 116, 82, 101, 100, 114, 97, 119, 84, 105, 108, 101, 115, 32, 108, 111, 111, 112, 46, 101, 120, 97, 109, 112, 108, 101, 47, 112, 105, 120, 101, 108, 119, 111, 114, 107, 115, 47, 108, 97, 119, 115, 46, 70, 110, 82, 101, 100, 114, 97, 119, 68, 105, 114, 116, 121, 32, 108, 111, 111, 112, 46, 101, 120, 97, 109, 112, 108, 101, 47, 112, 105, 120, 101, 108, 119, 111, 114, 107, 115, 47, 108, 97, 119, 115, 46, 70, 110, 82, 101, 100, 114, 97, 119, 84, 105, 108, 101, 115].map Char.ofNat
theorem signs0 : Try.prog.initOrder = String.ofList (w1 ++ Char.ofNat 32 :: (w2 ++ Char.ofNat 32 :: (w3 ++ Char.ofNat 32 :: w4))) := by kernel_rfl
theorem behind : behindMainWord (wordsSigns Try.prog.initOrder.toList) = w3 :: wordsSigns w4 := by
  rw [signs0, String.toList_ofList, wordsSigns_word w1 _ (by kernel_rfl), wordsSigns_word w2 _ (by kernel_rfl), wordsSigns_word w3 _ (by kernel_rfl)]
  unfold behindMainWord
  dsimp only
  rw [if_pos (by kernel_rfl)]
theorem strip_cut (R : List (List Char)) : stripLifts liftWords (w3 :: R) = ([], w3 :: R) := by kernel_rfl
theorem mayEnter_of (P : Program) (R : List (List Char)) (h : behindMainWord (wordsSigns P.initOrder.toList) = w3 :: R) (h1 : P.laysLater = false) (h2 : P.bearsReflect = false) (h3 : P.doorFits [] = true) : P.mayEnter = true := by
  unfold Program.mayEnter
  rw [h]
  dsimp only
  rw [strip_cut, h1, h2, h3]
  kernel_rfl
theorem liftsFinal_of (P : Program) (R : List (List Char)) (h : behindMainWord (wordsSigns P.initOrder.toList) = w3 :: R) : P.liftsFinal = false := by
  unfold Program.liftsFinal Program.headLifts
  rw [h]
  dsimp only
  rw [strip_cut]
  kernel_rfl
theorem make_of (P : Program) (R : List (List Char)) (h : behindMainWord (wordsSigns P.initOrder.toList) = w3 :: R) : P.make = some .cut := by
  unfold Program.make
  rw [h]
  kernel_rfl
theorem mayEnter : Try.prog.mayEnter = true := mayEnter_of _ _ behind (by kernel_rfl) (by kernel_rfl) (by kernel_rfl)
theorem liftsFinal : Try.prog.liftsFinal = false := liftsFinal_of _ _ behind
theorem make : Try.prog.make = some .cut := make_of _ _ behind
end Go.Proofs.Ytnofkbbcbpjhfaa.Head

-- the row of the law FnExactMergePlanes
namespace Go.Proofs.Ytnofkbbcbpjhfaa.fnExactMergePlanes
open Go.ChangeShapes Go.WideShapes Go.ChangeAt Go.RowKit Go.Proofs.Ytnofkbbcbpjhfaa.Q Go.Proofs.YtnofkbbcbpjhfaaW.PrintWords
open Go.ChangeMaps (open_string shut_string)
set_option linter.unusedVariables false
theorem own : ownKnob Try.prog.godebug = none := by kernel_rfl
theorem laidOut : laidOutB Try.prog = true := by kernel_rfl
set_option maxHeartbeats 4000000 in
set_option maxRecDepth 100000 in
theorem lifted (os : Os) (started : os.Started) (H : Type) (enc : TypeId × Value → H) :
    ReturnsInHanded {} Try.checked os 9 .any (Rows.fnExactMergePlanesSpec.pre6 enc Try.prog Try.f9 Rows.fnExactMergePlanesRow.domain false) (Rows.fnExactMergePlanesSpec.post enc Try.prog Try.f9 false true false false) := by
  refine returnsInHanded_of_change_sized (C := Try.checked) own started (by kernel_rfl) Try.func9
    (ChangeSpec.witness6 (enc := enc) (C := Try.checked) false ⟨#[], #[.slice none 0 0], []⟩ 8 (by kernel_rfl) (by kernel_rfl) (by kernel_rfl) (by kernel_rfl)) ?_
  intro W base args ds gs before hval0 hW hcnd hsz0 _
  have hval : ∀ (j : Nat) t v, Try.f9.params[j]? = some t → args[j]? = some v → Value.okWide Try.prog W .any base t v := hval0
  have hW' := hW
  obtain ⟨p, q, hA0, hV, rfl, hfz, hnd⟩ := hW
  have hA : DataW.TrodAll enc Try.prog W 0 (fun _ => true) true Try.f9.params.toList args.toList ds p := hA0
  rw [Try.params9] at hA hval
  obtain ⟨v0, vs0, d0, ds0, p0, q0, hargs, rfl, rfl, h0, r0⟩ := trodAll_cons hA
  obtain ⟨rfl, rfl, rfl⟩ := trodAll_nil r0
  obtain rfl : args = #[v0] := by cases args; simp_all
  obtain ⟨rfl, rfl⟩ := trodVars_none hV
  have k0 := h0
  have lt0 : ∀ x ∈ p0, x.block < W.heap.size := by obtain ⟨m, hm⟩ := k0; exact DataW.trod_lt m _ _ _ hm
  obtain ⟨fuel0, hf0⟩ := h0
  obtain ⟨aa0, len0, cap0, rfl⟩ := okWide_slice Try.underlying68 (hval 0 68 v0 rfl rfl)
  obtain ⟨l0, ⟨A0, c0, hcs0, hc0, hr0⟩, hq0⟩ := (opens_slice Try.underlying68 (by kernel_rfl) og24) _ _ _ _ _ _ hf0
  have hcs0' : [Value.slice aa0 len0 cap0] = [.slice A0 l0.length c0] := hcs0
  injection hcs0' with hcs0' _
  injection hcs0' with e10 e20 e30
  subst e10 e20 e30
  clear hA0 hval0 hsz0
  obtain ⟨k, hh⟩ := Pure.FnExactMergePlanes l0 hq0 hr0.2.1
  refine (Q.laws_FnExactMergePlanes.calls k _ _ l0 true W hr0 hc0 hh).mono fun e W' hpost => ?_
  obtain ⟨he, bel0⟩ := hpost
  have bel : Below W.heap.size W W' := bel0
  subst he
  exact ⟨_, rfl, _, _, _, [], _, [], hW', trodAll_mk1 (shut_bool Try.underlying4 _), (trodAll_cons_mk (Below.trod laidOut (by kernel_rfl) (of_decide_eq_true (by kernel_rfl)) k0 bel lt0) trodAll_mk0), rfl, bel.frame _, fun h => by cases h⟩
set_option maxHeartbeats 4000000 in
theorem closed : joinedFacts Try.prog 9 Try.f9 Rows.fnExactMergePlanesSpec Rows.fnExactMergePlanesRow = true := by
  unfold joinedFacts
  rw [Head.mayEnter, Head.liftsFinal, Head.make]
  simp only [Bool.and_eq_true]
  repeat' apply And.intro
  all_goals first | exact True.intro | (as_aux_lemma => kernel_rfl)
set_option maxHeartbeats 4000000 in
theorem over : Rows.fnExactMergePlanesRow.holds Try.pinned (OpenSpec.ofChange Rows.fnExactMergePlanesSpec) :=
  OpenClaim.holds_of_wide 9 Try.f9 rfl rfl rfl rfl rfl rfl rfl ⟨rfl, rfl, rfl, rfl, rfl⟩ rfl rfl rfl rfl rfl (by kernel_rfl) Try.func9 closed
    (of_decide_eq_true (by kernel_rfl)) (by unfold Func.isWrapper; first | (rw [if_pos (by decide +kernel)]; kernel_rfl) | (rw [if_neg (by decide +kernel)]; exact ⟨rfl, rfl⟩))
    (fun os started H enc _ => lifted os started H enc)
theorem proved : Rows.FnExactMergePlanesSaid := over
#print axioms proved
end Go.Proofs.Ytnofkbbcbpjhfaa.fnExactMergePlanes
namespace Go.Proofs.Ytnofkbbcbpjhfaa
/-- The row, under a short name, for the claim. -/
theorem fnExactMergePlanes_holds : Rows.FnExactMergePlanesSaid := fnExactMergePlanes.proved
end Go.Proofs.Ytnofkbbcbpjhfaa
