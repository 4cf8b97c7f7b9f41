/- A part of the proof that the statement FnExactCoverImageSaid holds, under no condition of its own: The program's CoverImage and the reference's return the same, and what is returned is held by nobody else: over lists of numbers alone. -/
import Derived.Test.YtnofkbbcbpjhfaaCFnExactCoverImage2
import Derived.Test.YtnofkbbcbpjhfaaCFnExactCoverImage3
import Derived.Test.YtnofkbbcbpjhfaaCFnExactCoverImage1
import Derived.Deep.Slices
import Derived.Deep.Fields
import Derived.ChangeSame
import Derived.ProofKit
import Derived.OpenShut
import Derived.ShutString
import Derived.ChangeOld
import Derived.SizedLaws
import GoSem.Claim
import Derived.Test.YtnofkbbcbpjhfaaRows
import Derived.JoinedOf
import Derived.KernelRfl
import Derived.WalkKit
import Derived.Below
import Derived.Carry
/- The law FnExactCoverImage: its walk. -/
namespace Go.Proofs.Ytnofkbbcbpjhfaa.Q
open Go.RowKit Go.Proofs.YtnofkbbcbpjhfaaW.PrintWords Go.Proofs.YtnofkbbcbpjhfaaW.PrintLast Go.Proofs.YtnofkbbcbpjhfaaW.PrintMore
attribute [local go_sem] max2_int min2_int max_two min_two max_three min_three max_four min_four
set_option linter.unusedVariables false
set_option linter.unusedSimpArgs false

def laws_FnExactCoverImage.Goes (k : Nat) (a0_0 : Int) (a0_1 : Int) (a0_2 : Int) (l0_3 : List Int) (a1_0 : Int) (a1_1 : Int) (a1_2 : Int) (l1_3 : List Int) (a1_4 : Int) (a1_5 : Int) (a1_6 : Int) (a1_7 : Int) (a1_8 : Bool) : Prop := (∃ s0 : Int, laws_szImage.f a0_0 a0_1 a0_2 l0_3 1048576 = some s0 ∧ s0 < 0) ∨ (∃ s0 s1 : Int, laws_szImage.f a0_0 a0_1 a0_2 l0_3 1048576 = some s0 ∧ ¬ s0 < 0 ∧ laws_szLayer.f a1_0 a1_1 a1_2 l1_3 a1_4 a1_5 a1_6 a1_7 a1_8 s0 = some s1 ∧ s1 < 0) ∨ (∃ (s0 : Int) (s1 : Int) (x0_0 : Int) (x0_1 : Int) (x0_2 : Int) (x0_3 : List Int) (x1_0 : Int) (x1_1 : Int) (x1_2 : Int) (x1_3 : List Int) (x1_4 : Int) (x1_5 : Int) (x1_6 : Int) (x1_7 : Int) (x1_8 : Bool) (v0 : Int) (v1 : Int) (v2 : Int) (v3 : List Int) (vok : Bool) (k0 : Int) (y0 : List Int) (k1 : Int) (y1 : List Int) (m : Int) (u : List Int), laws_szImage.f a0_0 a0_1 a0_2 l0_3 1048576 = some s0 ∧ ¬ s0 < 0 ∧ laws_szLayer.f a1_0 a1_1 a1_2 l1_3 a1_4 a1_5 a1_6 a1_7 a1_8 s0 = some s1 ∧ ¬ s1 < 0 ∧ laws_toImage.f k a0_0 a0_1 a0_2 l0_3 = some (x0_0, x0_1, x0_2, x0_3) ∧ laws_toLayer.f k a1_0 a1_1 a1_2 l1_3 a1_4 a1_5 a1_6 a1_7 a1_8 = some (x1_0, x1_1, x1_2, x1_3, x1_4, x1_5, x1_6, x1_7, x1_8) ∧ spec_CoverImage.f k x0_0 x0_1 x0_2 x0_3 x1_0 x1_1 x1_2 x1_3 x1_4 x1_5 x1_6 x1_7 x1_8 = some (v0, v1, v2, v3, vok) ∧ impl_CoverImage.f x0_0 x0_1 x0_2 x0_3 x1_0 x1_1 x1_2 x1_3 x1_4 x1_5 x1_6 x1_7 x1_8 = some (v0, v1, v2, v3, vok) ∧ laws_eqImage.f k v0 v1 v2 v3 v0 v1 v2 v3 = some true ∧ laws_eqImage.f k x0_0 x0_1 x0_2 x0_3 x0_0 x0_1 x0_2 x0_3 = some true ∧ laws_eqLayer.f k x1_0 x1_1 x1_2 x1_3 x1_4 x1_5 x1_6 x1_7 x1_8 x1_0 x1_1 x1_2 x1_3 x1_4 x1_5 x1_6 x1_7 x1_8 = some true ∧ laws_markImage.f k x0_0 x0_1 x0_2 x0_3 1 = some (k0, y0) ∧ laws_markLayer.f k x1_0 x1_1 x1_2 x1_3 x1_4 x1_5 x1_6 x1_7 x1_8 k0 = some (k1, y1) ∧ ¬ k1 < 0 ∧ laws_markImage.f k v0 v1 v2 v3 1 = some (m, u) ∧ laws_heldImage.f k v0 v1 v2 u 1 = some m ∧ ¬ m < 0)
noncomputable def laws_FnExactCoverImage.f (k : Nat) (a0_0 : Int) (a0_1 : Int) (a0_2 : Int) (l0_3 : List Int) (a1_0 : Int) (a1_1 : Int) (a1_2 : Int) (l1_3 : List Int) (a1_4 : Int) (a1_5 : Int) (a1_6 : Int) (a1_7 : Int) (a1_8 : Bool) : Option Bool := @ite _ (laws_FnExactCoverImage.Goes k a0_0 a0_1 a0_2 l0_3 a1_0 a1_1 a1_2 l1_3 a1_4 a1_5 a1_6 a1_7 a1_8) (Classical.propDecidable _) (some true) none
theorem laws_FnExactCoverImage.f_of {k : Nat} {a0_0 : Int} {a0_1 : Int} {a0_2 : Int} {l0_3 : List Int} {a1_0 : Int} {a1_1 : Int} {a1_2 : Int} {l1_3 : List Int} {a1_4 : Int} {a1_5 : Int} {a1_6 : Int} {a1_7 : Int} {a1_8 : Bool} (h : laws_FnExactCoverImage.Goes k a0_0 a0_1 a0_2 l0_3 a1_0 a1_1 a1_2 l1_3 a1_4 a1_5 a1_6 a1_7 a1_8) : laws_FnExactCoverImage.f k a0_0 a0_1 a0_2 l0_3 a1_0 a1_1 a1_2 l1_3 a1_4 a1_5 a1_6 a1_7 a1_8 = some true := by unfold laws_FnExactCoverImage.f; rw [if_pos h]
set_option maxHeartbeats 8000000 in
set_option maxRecDepth 100000 in
theorem laws_FnExactCoverImage.big0 (k : Nat) (a0_0 : Int) (a0_1 : Int) (a0_2 : Int) (A0_3 : Option Addr) (c0_3 : Nat) (l0_3 : List Int) (a1_0 : Int) (a1_1 : Int) (a1_2 : Int) (A1_3 : Option Addr) (c1_3 : Nat) (l1_3 : List Int) (a1_4 : Int) (a1_5 : Int) (a1_6 : Int) (a1_7 : Int) (a1_8 : Bool) (w : World) (hr0 : Kd.C (Kd.int .i64) w A0_3 l0_3.length l0_3) (hc0 : l0_3.length ≤ c0_3) (hr1 : Kd.C (Kd.int .i64) w A1_3 l1_3.length l1_3) (hc1 : l1_3.length ≤ c1_3) (s0 : Int) (hs0 : laws_szImage.f a0_0 a0_1 a0_2 l0_3 1048576 = some s0) (hn0 : s0 < 0) : Calls Try.prog 10 #[.agg #[.int .i64 a0_0, .int .i64 a0_1, .int .i64 a0_2, .slice A0_3 l0_3.length c0_3], .agg #[.int .i64 a1_0, .int .i64 a1_1, .int .i64 a1_2, .slice A1_3 l1_3.length c1_3, .int .i64 a1_4, .int .i64 a1_5, .int .i64 a1_6, .int .i64 a1_7, .bool a1_8]] w fun e w' => e = .returned (.bool true) ∧ Below w.heap.size w w' := by
  have HC0 := Aside0.mk hc0
  have HR0 := Aside0.mk hr0
  have HC1 := Aside0.mk hc1
  have HR1 := Aside0.mk hr1
  have HB := Aside0.mk (Below.refl w.heap.size w)
  clear hc0 hr0 hc1 hr1
  have hu0 := Try.underlying27
  have hu1 := Try.underlying55
  have hu2 := Try.underlying24
  have hu3 := Try.underlying51
  have HS0 := Aside0.mk hs0
  have dn0 : decide (s0 < 0) = true := decide_eq_true hn0
  clear hs0 hn0
  go_enter Try.func10, Try.ntmps10
  go_wp2_with (first
    | ((with_reducible refine gate_dst (N := 2) rfl ?_); refine box_event ?hg (N := 2) ?hd (cs := #[.int .i64 a0_0, .int .i64 a0_1, .int .i64 a0_2, .slice A0_3 l0_3.length c0_3]) (t := 24) ?hr ?_; (case hd => rfl); (case hg => rfl); (case hr => first | (go_simp; done) | (go_simp; rfl)); intro gb0 hg_ wb0 hbox hb; have Kgb0 := Aside0.mk hbox; have HB := Aside0.mk (below_then HB.out HB.out.size hb); clear hbox hb hg_)
    | ((with_reducible refine gate_dst (N := 3) rfl ?_); refine box_event ?hg (N := 3) ?hd (cs := #[.int .i64 a1_0, .int .i64 a1_1, .int .i64 a1_2, .slice A1_3 l1_3.length c1_3, .int .i64 a1_4, .int .i64 a1_5, .int .i64 a1_6, .int .i64 a1_7, .bool a1_8]) (t := 51) ?hr ?_; (case hd => rfl); (case hg => rfl); (case hr => first | (go_simp; done) | (go_simp; rfl)); intro gb1 hg_ wb1 hbox hb; have Kgb0 := Aside0.mk (blk_below Kgb0.out hb); have Kgb1 := Aside0.mk hbox; have HB := Aside0.mk (below_then HB.out HB.out.size hb); have cb0_0 : wb1.cell? ⟨gb0, 0, none⟩ = some (.int .i64 a0_0) := (blk_cell Kgb0.out 0).trans rfl; have cb0_1 : wb1.cell? ⟨gb0, 1, none⟩ = some (.int .i64 a0_1) := (blk_cell Kgb0.out 1).trans rfl; have cb0_2 : wb1.cell? ⟨gb0, 2, none⟩ = some (.int .i64 a0_2) := (blk_cell Kgb0.out 2).trans rfl; have cb0_3 : wb1.cell? ⟨gb0, 3, none⟩ = some (.slice A0_3 l0_3.length c0_3) := (blk_cell Kgb0.out 3).trans rfl; have cb1_0 : wb1.cell? ⟨gb1, 0, none⟩ = some (.int .i64 a1_0) := (blk_cell Kgb1.out 0).trans rfl; have cb1_1 : wb1.cell? ⟨gb1, 1, none⟩ = some (.int .i64 a1_1) := (blk_cell Kgb1.out 1).trans rfl; have cb1_2 : wb1.cell? ⟨gb1, 2, none⟩ = some (.int .i64 a1_2) := (blk_cell Kgb1.out 2).trans rfl; have cb1_3 : wb1.cell? ⟨gb1, 3, none⟩ = some (.slice A1_3 l1_3.length c1_3) := (blk_cell Kgb1.out 3).trans rfl; have cb1_4 : wb1.cell? ⟨gb1, 4, none⟩ = some (.int .i64 a1_4) := (blk_cell Kgb1.out 4).trans rfl; have cb1_5 : wb1.cell? ⟨gb1, 5, none⟩ = some (.int .i64 a1_5) := (blk_cell Kgb1.out 5).trans rfl; have cb1_6 : wb1.cell? ⟨gb1, 6, none⟩ = some (.int .i64 a1_6) := (blk_cell Kgb1.out 6).trans rfl; have cb1_7 : wb1.cell? ⟨gb1, 7, none⟩ = some (.int .i64 a1_7) := (blk_cell Kgb1.out 7).trans rfl; have cb1_8 : wb1.cell? ⟨gb1, 8, none⟩ = some (.bool a1_8) := (blk_cell Kgb1.out 8).trans rfl; clear hbox hb hg_)
    | (go_at_call 20; (with_reducible refine (laws_szImage.calls a0_0 a0_1 a0_2 A0_3 c0_3 l0_3 1048576 s0 wb1 (Kd.C_below HR0.out HB.out) HC0.out HS0.out).mono ?_); rintro e wz0 ⟨rfl, hb⟩; have Kgb0 := Aside0.mk (blk_below Kgb0.out hb); have Kgb1 := Aside0.mk (blk_below Kgb1.out hb); have HB := Aside0.mk (below_then HB.out HB.out.size hb); have cb0_0 : wz0.cell? ⟨gb0, 0, none⟩ = some (.int .i64 a0_0) := (blk_cell Kgb0.out 0).trans rfl; have cb0_1 : wz0.cell? ⟨gb0, 1, none⟩ = some (.int .i64 a0_1) := (blk_cell Kgb0.out 1).trans rfl; have cb0_2 : wz0.cell? ⟨gb0, 2, none⟩ = some (.int .i64 a0_2) := (blk_cell Kgb0.out 2).trans rfl; have cb0_3 : wz0.cell? ⟨gb0, 3, none⟩ = some (.slice A0_3 l0_3.length c0_3) := (blk_cell Kgb0.out 3).trans rfl; have cb1_0 : wz0.cell? ⟨gb1, 0, none⟩ = some (.int .i64 a1_0) := (blk_cell Kgb1.out 0).trans rfl; have cb1_1 : wz0.cell? ⟨gb1, 1, none⟩ = some (.int .i64 a1_1) := (blk_cell Kgb1.out 1).trans rfl; have cb1_2 : wz0.cell? ⟨gb1, 2, none⟩ = some (.int .i64 a1_2) := (blk_cell Kgb1.out 2).trans rfl; have cb1_3 : wz0.cell? ⟨gb1, 3, none⟩ = some (.slice A1_3 l1_3.length c1_3) := (blk_cell Kgb1.out 3).trans rfl; have cb1_4 : wz0.cell? ⟨gb1, 4, none⟩ = some (.int .i64 a1_4) := (blk_cell Kgb1.out 4).trans rfl; have cb1_5 : wz0.cell? ⟨gb1, 5, none⟩ = some (.int .i64 a1_5) := (blk_cell Kgb1.out 5).trans rfl; have cb1_6 : wz0.cell? ⟨gb1, 6, none⟩ = some (.int .i64 a1_6) := (blk_cell Kgb1.out 6).trans rfl; have cb1_7 : wz0.cell? ⟨gb1, 7, none⟩ = some (.int .i64 a1_7) := (blk_cell Kgb1.out 7).trans rfl; have cb1_8 : wz0.cell? ⟨gb1, 8, none⟩ = some (.bool a1_8) := (blk_cell Kgb1.out 8).trans rfl; clear hb))
  go_ret
  exact ⟨rfl, HB.out⟩
set_option maxHeartbeats 8000000 in
set_option maxRecDepth 100000 in
theorem laws_FnExactCoverImage.big1 (k : Nat) (a0_0 : Int) (a0_1 : Int) (a0_2 : Int) (A0_3 : Option Addr) (c0_3 : Nat) (l0_3 : List Int) (a1_0 : Int) (a1_1 : Int) (a1_2 : Int) (A1_3 : Option Addr) (c1_3 : Nat) (l1_3 : List Int) (a1_4 : Int) (a1_5 : Int) (a1_6 : Int) (a1_7 : Int) (a1_8 : Bool) (w : World) (hr0 : Kd.C (Kd.int .i64) w A0_3 l0_3.length l0_3) (hc0 : l0_3.length ≤ c0_3) (hr1 : Kd.C (Kd.int .i64) w A1_3 l1_3.length l1_3) (hc1 : l1_3.length ≤ c1_3) (s0 : Int) (s1 : Int) (hs0 : laws_szImage.f a0_0 a0_1 a0_2 l0_3 1048576 = some s0) (hn0 : ¬ s0 < 0) (hs1 : laws_szLayer.f a1_0 a1_1 a1_2 l1_3 a1_4 a1_5 a1_6 a1_7 a1_8 s0 = some s1) (hn1 : s1 < 0) : Calls Try.prog 10 #[.agg #[.int .i64 a0_0, .int .i64 a0_1, .int .i64 a0_2, .slice A0_3 l0_3.length c0_3], .agg #[.int .i64 a1_0, .int .i64 a1_1, .int .i64 a1_2, .slice A1_3 l1_3.length c1_3, .int .i64 a1_4, .int .i64 a1_5, .int .i64 a1_6, .int .i64 a1_7, .bool a1_8]] w fun e w' => e = .returned (.bool true) ∧ Below w.heap.size w w' := by
  have HC0 := Aside0.mk hc0
  have HR0 := Aside0.mk hr0
  have HC1 := Aside0.mk hc1
  have HR1 := Aside0.mk hr1
  have HB := Aside0.mk (Below.refl w.heap.size w)
  clear hc0 hr0 hc1 hr1
  have hu0 := Try.underlying27
  have hu1 := Try.underlying55
  have hu2 := Try.underlying24
  have hu3 := Try.underlying51
  have HS0 := Aside0.mk hs0
  have dn0 : decide (s0 < 0) = false := decide_eq_false hn0
  have HS1 := Aside0.mk hs1
  have dn1 : decide (s1 < 0) = true := decide_eq_true hn1
  clear hs0 hn0 hs1 hn1
  go_enter Try.func10, Try.ntmps10
  go_wp2_with (first
    | ((with_reducible refine gate_dst (N := 2) rfl ?_); refine box_event ?hg (N := 2) ?hd (cs := #[.int .i64 a0_0, .int .i64 a0_1, .int .i64 a0_2, .slice A0_3 l0_3.length c0_3]) (t := 24) ?hr ?_; (case hd => rfl); (case hg => rfl); (case hr => first | (go_simp; done) | (go_simp; rfl)); intro gb0 hg_ wb0 hbox hb; have Kgb0 := Aside0.mk hbox; have HB := Aside0.mk (below_then HB.out HB.out.size hb); clear hbox hb hg_)
    | ((with_reducible refine gate_dst (N := 3) rfl ?_); refine box_event ?hg (N := 3) ?hd (cs := #[.int .i64 a1_0, .int .i64 a1_1, .int .i64 a1_2, .slice A1_3 l1_3.length c1_3, .int .i64 a1_4, .int .i64 a1_5, .int .i64 a1_6, .int .i64 a1_7, .bool a1_8]) (t := 51) ?hr ?_; (case hd => rfl); (case hg => rfl); (case hr => first | (go_simp; done) | (go_simp; rfl)); intro gb1 hg_ wb1 hbox hb; have Kgb0 := Aside0.mk (blk_below Kgb0.out hb); have Kgb1 := Aside0.mk hbox; have HB := Aside0.mk (below_then HB.out HB.out.size hb); have cb0_0 : wb1.cell? ⟨gb0, 0, none⟩ = some (.int .i64 a0_0) := (blk_cell Kgb0.out 0).trans rfl; have cb0_1 : wb1.cell? ⟨gb0, 1, none⟩ = some (.int .i64 a0_1) := (blk_cell Kgb0.out 1).trans rfl; have cb0_2 : wb1.cell? ⟨gb0, 2, none⟩ = some (.int .i64 a0_2) := (blk_cell Kgb0.out 2).trans rfl; have cb0_3 : wb1.cell? ⟨gb0, 3, none⟩ = some (.slice A0_3 l0_3.length c0_3) := (blk_cell Kgb0.out 3).trans rfl; have cb1_0 : wb1.cell? ⟨gb1, 0, none⟩ = some (.int .i64 a1_0) := (blk_cell Kgb1.out 0).trans rfl; have cb1_1 : wb1.cell? ⟨gb1, 1, none⟩ = some (.int .i64 a1_1) := (blk_cell Kgb1.out 1).trans rfl; have cb1_2 : wb1.cell? ⟨gb1, 2, none⟩ = some (.int .i64 a1_2) := (blk_cell Kgb1.out 2).trans rfl; have cb1_3 : wb1.cell? ⟨gb1, 3, none⟩ = some (.slice A1_3 l1_3.length c1_3) := (blk_cell Kgb1.out 3).trans rfl; have cb1_4 : wb1.cell? ⟨gb1, 4, none⟩ = some (.int .i64 a1_4) := (blk_cell Kgb1.out 4).trans rfl; have cb1_5 : wb1.cell? ⟨gb1, 5, none⟩ = some (.int .i64 a1_5) := (blk_cell Kgb1.out 5).trans rfl; have cb1_6 : wb1.cell? ⟨gb1, 6, none⟩ = some (.int .i64 a1_6) := (blk_cell Kgb1.out 6).trans rfl; have cb1_7 : wb1.cell? ⟨gb1, 7, none⟩ = some (.int .i64 a1_7) := (blk_cell Kgb1.out 7).trans rfl; have cb1_8 : wb1.cell? ⟨gb1, 8, none⟩ = some (.bool a1_8) := (blk_cell Kgb1.out 8).trans rfl; clear hbox hb hg_)
    | (go_at_call 20; (with_reducible refine (laws_szImage.calls a0_0 a0_1 a0_2 A0_3 c0_3 l0_3 1048576 s0 wb1 (Kd.C_below HR0.out HB.out) HC0.out HS0.out).mono ?_); rintro e wz0 ⟨rfl, hb⟩; have Kgb0 := Aside0.mk (blk_below Kgb0.out hb); have Kgb1 := Aside0.mk (blk_below Kgb1.out hb); have HB := Aside0.mk (below_then HB.out HB.out.size hb); have cb0_0 : wz0.cell? ⟨gb0, 0, none⟩ = some (.int .i64 a0_0) := (blk_cell Kgb0.out 0).trans rfl; have cb0_1 : wz0.cell? ⟨gb0, 1, none⟩ = some (.int .i64 a0_1) := (blk_cell Kgb0.out 1).trans rfl; have cb0_2 : wz0.cell? ⟨gb0, 2, none⟩ = some (.int .i64 a0_2) := (blk_cell Kgb0.out 2).trans rfl; have cb0_3 : wz0.cell? ⟨gb0, 3, none⟩ = some (.slice A0_3 l0_3.length c0_3) := (blk_cell Kgb0.out 3).trans rfl; have cb1_0 : wz0.cell? ⟨gb1, 0, none⟩ = some (.int .i64 a1_0) := (blk_cell Kgb1.out 0).trans rfl; have cb1_1 : wz0.cell? ⟨gb1, 1, none⟩ = some (.int .i64 a1_1) := (blk_cell Kgb1.out 1).trans rfl; have cb1_2 : wz0.cell? ⟨gb1, 2, none⟩ = some (.int .i64 a1_2) := (blk_cell Kgb1.out 2).trans rfl; have cb1_3 : wz0.cell? ⟨gb1, 3, none⟩ = some (.slice A1_3 l1_3.length c1_3) := (blk_cell Kgb1.out 3).trans rfl; have cb1_4 : wz0.cell? ⟨gb1, 4, none⟩ = some (.int .i64 a1_4) := (blk_cell Kgb1.out 4).trans rfl; have cb1_5 : wz0.cell? ⟨gb1, 5, none⟩ = some (.int .i64 a1_5) := (blk_cell Kgb1.out 5).trans rfl; have cb1_6 : wz0.cell? ⟨gb1, 6, none⟩ = some (.int .i64 a1_6) := (blk_cell Kgb1.out 6).trans rfl; have cb1_7 : wz0.cell? ⟨gb1, 7, none⟩ = some (.int .i64 a1_7) := (blk_cell Kgb1.out 7).trans rfl; have cb1_8 : wz0.cell? ⟨gb1, 8, none⟩ = some (.bool a1_8) := (blk_cell Kgb1.out 8).trans rfl; clear hb)
    | (go_at_call 39; (with_reducible refine (laws_szLayer.calls a1_0 a1_1 a1_2 A1_3 c1_3 l1_3 a1_4 a1_5 a1_6 a1_7 a1_8 s0 s1 wz0 (Kd.C_below HR1.out HB.out) HC1.out HS1.out).mono ?_); rintro e wz1 ⟨rfl, hb⟩; have Kgb0 := Aside0.mk (blk_below Kgb0.out hb); have Kgb1 := Aside0.mk (blk_below Kgb1.out hb); have HB := Aside0.mk (below_then HB.out HB.out.size hb); have cb0_0 : wz1.cell? ⟨gb0, 0, none⟩ = some (.int .i64 a0_0) := (blk_cell Kgb0.out 0).trans rfl; have cb0_1 : wz1.cell? ⟨gb0, 1, none⟩ = some (.int .i64 a0_1) := (blk_cell Kgb0.out 1).trans rfl; have cb0_2 : wz1.cell? ⟨gb0, 2, none⟩ = some (.int .i64 a0_2) := (blk_cell Kgb0.out 2).trans rfl; have cb0_3 : wz1.cell? ⟨gb0, 3, none⟩ = some (.slice A0_3 l0_3.length c0_3) := (blk_cell Kgb0.out 3).trans rfl; have cb1_0 : wz1.cell? ⟨gb1, 0, none⟩ = some (.int .i64 a1_0) := (blk_cell Kgb1.out 0).trans rfl; have cb1_1 : wz1.cell? ⟨gb1, 1, none⟩ = some (.int .i64 a1_1) := (blk_cell Kgb1.out 1).trans rfl; have cb1_2 : wz1.cell? ⟨gb1, 2, none⟩ = some (.int .i64 a1_2) := (blk_cell Kgb1.out 2).trans rfl; have cb1_3 : wz1.cell? ⟨gb1, 3, none⟩ = some (.slice A1_3 l1_3.length c1_3) := (blk_cell Kgb1.out 3).trans rfl; have cb1_4 : wz1.cell? ⟨gb1, 4, none⟩ = some (.int .i64 a1_4) := (blk_cell Kgb1.out 4).trans rfl; have cb1_5 : wz1.cell? ⟨gb1, 5, none⟩ = some (.int .i64 a1_5) := (blk_cell Kgb1.out 5).trans rfl; have cb1_6 : wz1.cell? ⟨gb1, 6, none⟩ = some (.int .i64 a1_6) := (blk_cell Kgb1.out 6).trans rfl; have cb1_7 : wz1.cell? ⟨gb1, 7, none⟩ = some (.int .i64 a1_7) := (blk_cell Kgb1.out 7).trans rfl; have cb1_8 : wz1.cell? ⟨gb1, 8, none⟩ = some (.bool a1_8) := (blk_cell Kgb1.out 8).trans rfl; clear hb))
  go_ret
  exact ⟨rfl, HB.out⟩
set_option maxHeartbeats 8000000 in
set_option maxRecDepth 100000 in
theorem laws_FnExactCoverImage.way (k : Nat) (a0_0 : Int) (a0_1 : Int) (a0_2 : Int) (A0_3 : Option Addr) (c0_3 : Nat) (l0_3 : List Int) (a1_0 : Int) (a1_1 : Int) (a1_2 : Int) (A1_3 : Option Addr) (c1_3 : Nat) (l1_3 : List Int) (a1_4 : Int) (a1_5 : Int) (a1_6 : Int) (a1_7 : Int) (a1_8 : Bool) (w : World) (hr0 : Kd.C (Kd.int .i64) w A0_3 l0_3.length l0_3) (hc0 : l0_3.length ≤ c0_3) (hr1 : Kd.C (Kd.int .i64) w A1_3 l1_3.length l1_3) (hc1 : l1_3.length ≤ c1_3) (s0 : Int) (s1 : Int) (x0_0 : Int) (x0_1 : Int) (x0_2 : Int) (x0_3 : List Int) (x1_0 : Int) (x1_1 : Int) (x1_2 : Int) (x1_3 : List Int) (x1_4 : Int) (x1_5 : Int) (x1_6 : Int) (x1_7 : Int) (x1_8 : Bool) (v0 : Int) (v1 : Int) (v2 : Int) (v3 : List Int) (vok : Bool) (k0 : Int) (y0 : List Int) (k1 : Int) (y1 : List Int) (m : Int) (u : List Int) (HS0 : laws_szImage.f a0_0 a0_1 a0_2 l0_3 1048576 = some s0) (HN0 : ¬ s0 < 0) (HS1 : laws_szLayer.f a1_0 a1_1 a1_2 l1_3 a1_4 a1_5 a1_6 a1_7 a1_8 s0 = some s1) (HN1 : ¬ s1 < 0) (HT0 : laws_toImage.f k a0_0 a0_1 a0_2 l0_3 = some (x0_0, x0_1, x0_2, x0_3)) (HT1 : laws_toLayer.f k a1_0 a1_1 a1_2 l1_3 a1_4 a1_5 a1_6 a1_7 a1_8 = some (x1_0, x1_1, x1_2, x1_3, x1_4, x1_5, x1_6, x1_7, x1_8)) (HSP : spec_CoverImage.f k x0_0 x0_1 x0_2 x0_3 x1_0 x1_1 x1_2 x1_3 x1_4 x1_5 x1_6 x1_7 x1_8 = some (v0, v1, v2, v3, vok)) (HIM : impl_CoverImage.f x0_0 x0_1 x0_2 x0_3 x1_0 x1_1 x1_2 x1_3 x1_4 x1_5 x1_6 x1_7 x1_8 = some (v0, v1, v2, v3, vok)) (HEV : laws_eqImage.f k v0 v1 v2 v3 v0 v1 v2 v3 = some true) (HE0 : laws_eqImage.f k x0_0 x0_1 x0_2 x0_3 x0_0 x0_1 x0_2 x0_3 = some true) (HE1 : laws_eqLayer.f k x1_0 x1_1 x1_2 x1_3 x1_4 x1_5 x1_6 x1_7 x1_8 x1_0 x1_1 x1_2 x1_3 x1_4 x1_5 x1_6 x1_7 x1_8 = some true) (HM0 : laws_markImage.f k x0_0 x0_1 x0_2 x0_3 1 = some (k0, y0)) (HM1 : laws_markLayer.f k x1_0 x1_1 x1_2 x1_3 x1_4 x1_5 x1_6 x1_7 x1_8 k0 = some (k1, y1)) (HKN : ¬ k1 < 0) (HMR : laws_markImage.f k v0 v1 v2 v3 1 = some (m, u)) (HHR : laws_heldImage.f k v0 v1 v2 u 1 = some m) (HMN : ¬ m < 0) : Calls Try.prog 10 #[.agg #[.int .i64 a0_0, .int .i64 a0_1, .int .i64 a0_2, .slice A0_3 l0_3.length c0_3], .agg #[.int .i64 a1_0, .int .i64 a1_1, .int .i64 a1_2, .slice A1_3 l1_3.length c1_3, .int .i64 a1_4, .int .i64 a1_5, .int .i64 a1_6, .int .i64 a1_7, .bool a1_8]] w fun e w' => e = .returned (.bool true) ∧ Below w.heap.size w w' := by
  have HC0 := Aside0.mk hc0
  have HR0 := Aside0.mk hr0
  have HC1 := Aside0.mk hc1
  have HR1 := Aside0.mk hr1
  have HB := Aside0.mk (Below.refl w.heap.size w)
  clear hc0 hr0 hc1 hr1
  have hu0 := Try.underlying27
  have hu1 := Try.underlying55
  have hu2 := Try.underlying24
  have hu3 := Try.underlying51
  replace HS0 := Aside0.mk HS0
  replace HN0 := Aside0.mk HN0
  replace HS1 := Aside0.mk HS1
  replace HN1 := Aside0.mk HN1
  replace HT0 := Aside0.mk HT0
  replace HT1 := Aside0.mk HT1
  replace HSP := Aside0.mk HSP
  replace HIM := Aside0.mk HIM
  replace HEV := Aside0.mk HEV
  replace HE0 := Aside0.mk HE0
  replace HE1 := Aside0.mk HE1
  replace HM0 := Aside0.mk HM0
  replace HM1 := Aside0.mk HM1
  replace HKN := Aside0.mk HKN
  replace HMR := Aside0.mk HMR
  replace HHR := Aside0.mk HHR
  replace HMN := Aside0.mk HMN
  have dn0 : decide (s0 < 0) = false := decide_eq_false HN0.out
  have dn1 : decide (s1 < 0) = false := decide_eq_false HN1.out
  have dk : decide (k1 < 0) = false := decide_eq_false HKN.out
  have dm : decide (m < 0) = false := decide_eq_false HMN.out
  go_enter Try.func10, Try.ntmps10
  go_upto_region 8 with (first
    | ((with_reducible refine gate_dst (N := 2) rfl ?_); refine box_event ?hg (N := 2) ?hd (cs := #[.int .i64 a0_0, .int .i64 a0_1, .int .i64 a0_2, .slice A0_3 l0_3.length c0_3]) (t := 24) ?hr ?_; (case hd => rfl); (case hg => rfl); (case hr => first | (go_simp; done) | (go_simp; rfl)); intro gb0 hg_ wb0 hbox hb; have Kgb0 := Aside0.mk hbox; have HB := Aside0.mk (below_then HB.out HB.out.size hb); clear hbox hb hg_)
    | ((with_reducible refine gate_dst (N := 3) rfl ?_); refine box_event ?hg (N := 3) ?hd (cs := #[.int .i64 a1_0, .int .i64 a1_1, .int .i64 a1_2, .slice A1_3 l1_3.length c1_3, .int .i64 a1_4, .int .i64 a1_5, .int .i64 a1_6, .int .i64 a1_7, .bool a1_8]) (t := 51) ?hr ?_; (case hd => rfl); (case hg => rfl); (case hr => first | (go_simp; done) | (go_simp; rfl)); intro gb1 hg_ wb1 hbox hb; have Kgb0 := Aside0.mk (blk_below Kgb0.out hb); have Kgb1 := Aside0.mk hbox; have HB := Aside0.mk (below_then HB.out HB.out.size hb); have cb0_0 : wb1.cell? ⟨gb0, 0, none⟩ = some (.int .i64 a0_0) := (blk_cell Kgb0.out 0).trans rfl; have cb0_1 : wb1.cell? ⟨gb0, 1, none⟩ = some (.int .i64 a0_1) := (blk_cell Kgb0.out 1).trans rfl; have cb0_2 : wb1.cell? ⟨gb0, 2, none⟩ = some (.int .i64 a0_2) := (blk_cell Kgb0.out 2).trans rfl; have cb0_3 : wb1.cell? ⟨gb0, 3, none⟩ = some (.slice A0_3 l0_3.length c0_3) := (blk_cell Kgb0.out 3).trans rfl; have cb1_0 : wb1.cell? ⟨gb1, 0, none⟩ = some (.int .i64 a1_0) := (blk_cell Kgb1.out 0).trans rfl; have cb1_1 : wb1.cell? ⟨gb1, 1, none⟩ = some (.int .i64 a1_1) := (blk_cell Kgb1.out 1).trans rfl; have cb1_2 : wb1.cell? ⟨gb1, 2, none⟩ = some (.int .i64 a1_2) := (blk_cell Kgb1.out 2).trans rfl; have cb1_3 : wb1.cell? ⟨gb1, 3, none⟩ = some (.slice A1_3 l1_3.length c1_3) := (blk_cell Kgb1.out 3).trans rfl; have cb1_4 : wb1.cell? ⟨gb1, 4, none⟩ = some (.int .i64 a1_4) := (blk_cell Kgb1.out 4).trans rfl; have cb1_5 : wb1.cell? ⟨gb1, 5, none⟩ = some (.int .i64 a1_5) := (blk_cell Kgb1.out 5).trans rfl; have cb1_6 : wb1.cell? ⟨gb1, 6, none⟩ = some (.int .i64 a1_6) := (blk_cell Kgb1.out 6).trans rfl; have cb1_7 : wb1.cell? ⟨gb1, 7, none⟩ = some (.int .i64 a1_7) := (blk_cell Kgb1.out 7).trans rfl; have cb1_8 : wb1.cell? ⟨gb1, 8, none⟩ = some (.bool a1_8) := (blk_cell Kgb1.out 8).trans rfl; clear hbox hb hg_)
    | (go_at_call 20; (with_reducible refine (laws_szImage.calls a0_0 a0_1 a0_2 A0_3 c0_3 l0_3 1048576 s0 wb1 (Kd.C_below HR0.out HB.out) HC0.out HS0.out).mono ?_); rintro e wz0 ⟨rfl, hb⟩; have Kgb0 := Aside0.mk (blk_below Kgb0.out hb); have Kgb1 := Aside0.mk (blk_below Kgb1.out hb); have HB := Aside0.mk (below_then HB.out HB.out.size hb); have cb0_0 : wz0.cell? ⟨gb0, 0, none⟩ = some (.int .i64 a0_0) := (blk_cell Kgb0.out 0).trans rfl; have cb0_1 : wz0.cell? ⟨gb0, 1, none⟩ = some (.int .i64 a0_1) := (blk_cell Kgb0.out 1).trans rfl; have cb0_2 : wz0.cell? ⟨gb0, 2, none⟩ = some (.int .i64 a0_2) := (blk_cell Kgb0.out 2).trans rfl; have cb0_3 : wz0.cell? ⟨gb0, 3, none⟩ = some (.slice A0_3 l0_3.length c0_3) := (blk_cell Kgb0.out 3).trans rfl; have cb1_0 : wz0.cell? ⟨gb1, 0, none⟩ = some (.int .i64 a1_0) := (blk_cell Kgb1.out 0).trans rfl; have cb1_1 : wz0.cell? ⟨gb1, 1, none⟩ = some (.int .i64 a1_1) := (blk_cell Kgb1.out 1).trans rfl; have cb1_2 : wz0.cell? ⟨gb1, 2, none⟩ = some (.int .i64 a1_2) := (blk_cell Kgb1.out 2).trans rfl; have cb1_3 : wz0.cell? ⟨gb1, 3, none⟩ = some (.slice A1_3 l1_3.length c1_3) := (blk_cell Kgb1.out 3).trans rfl; have cb1_4 : wz0.cell? ⟨gb1, 4, none⟩ = some (.int .i64 a1_4) := (blk_cell Kgb1.out 4).trans rfl; have cb1_5 : wz0.cell? ⟨gb1, 5, none⟩ = some (.int .i64 a1_5) := (blk_cell Kgb1.out 5).trans rfl; have cb1_6 : wz0.cell? ⟨gb1, 6, none⟩ = some (.int .i64 a1_6) := (blk_cell Kgb1.out 6).trans rfl; have cb1_7 : wz0.cell? ⟨gb1, 7, none⟩ = some (.int .i64 a1_7) := (blk_cell Kgb1.out 7).trans rfl; have cb1_8 : wz0.cell? ⟨gb1, 8, none⟩ = some (.bool a1_8) := (blk_cell Kgb1.out 8).trans rfl; clear hb)
    | (go_at_call 39; (with_reducible refine (laws_szLayer.calls a1_0 a1_1 a1_2 A1_3 c1_3 l1_3 a1_4 a1_5 a1_6 a1_7 a1_8 s0 s1 wz0 (Kd.C_below HR1.out HB.out) HC1.out HS1.out).mono ?_); rintro e wz1 ⟨rfl, hb⟩; have Kgb0 := Aside0.mk (blk_below Kgb0.out hb); have Kgb1 := Aside0.mk (blk_below Kgb1.out hb); have HB := Aside0.mk (below_then HB.out HB.out.size hb); have cb0_0 : wz1.cell? ⟨gb0, 0, none⟩ = some (.int .i64 a0_0) := (blk_cell Kgb0.out 0).trans rfl; have cb0_1 : wz1.cell? ⟨gb0, 1, none⟩ = some (.int .i64 a0_1) := (blk_cell Kgb0.out 1).trans rfl; have cb0_2 : wz1.cell? ⟨gb0, 2, none⟩ = some (.int .i64 a0_2) := (blk_cell Kgb0.out 2).trans rfl; have cb0_3 : wz1.cell? ⟨gb0, 3, none⟩ = some (.slice A0_3 l0_3.length c0_3) := (blk_cell Kgb0.out 3).trans rfl; have cb1_0 : wz1.cell? ⟨gb1, 0, none⟩ = some (.int .i64 a1_0) := (blk_cell Kgb1.out 0).trans rfl; have cb1_1 : wz1.cell? ⟨gb1, 1, none⟩ = some (.int .i64 a1_1) := (blk_cell Kgb1.out 1).trans rfl; have cb1_2 : wz1.cell? ⟨gb1, 2, none⟩ = some (.int .i64 a1_2) := (blk_cell Kgb1.out 2).trans rfl; have cb1_3 : wz1.cell? ⟨gb1, 3, none⟩ = some (.slice A1_3 l1_3.length c1_3) := (blk_cell Kgb1.out 3).trans rfl; have cb1_4 : wz1.cell? ⟨gb1, 4, none⟩ = some (.int .i64 a1_4) := (blk_cell Kgb1.out 4).trans rfl; have cb1_5 : wz1.cell? ⟨gb1, 5, none⟩ = some (.int .i64 a1_5) := (blk_cell Kgb1.out 5).trans rfl; have cb1_6 : wz1.cell? ⟨gb1, 6, none⟩ = some (.int .i64 a1_6) := (blk_cell Kgb1.out 6).trans rfl; have cb1_7 : wz1.cell? ⟨gb1, 7, none⟩ = some (.int .i64 a1_7) := (blk_cell Kgb1.out 7).trans rfl; have cb1_8 : wz1.cell? ⟨gb1, 8, none⟩ = some (.bool a1_8) := (blk_cell Kgb1.out 8).trans rfl; clear hb))
  have HBSw := Aside0.mk HB.out.size
  have HZw := Aside0.mk (Nat.le_refl wz1.heap.size)
  replace HB := Aside0.mk (below_drew HB.out)
  replace Kgb0 := Aside0.mk (blk_below Kgb0.out (below_drew (Below.refl _ _)))
  replace Kgb1 := Aside0.mk (blk_below Kgb1.out (below_drew (Below.refl _ _)))
  replace HZw := Aside0.mk (show wz1.heap.size ≤ wz1.drew.heap.size from HZw.out)
  have QKgb0 := Aside0.mk (show gb0 < wz1.heap.size from blk_lt Kgb0.out)
  have QKgb1 := Aside0.mk (show gb1 < wz1.heap.size from blk_lt Kgb1.out)
  refine start_ (n := 11) (S := fun w' => w'.cell? ⟨gb0, 0, none⟩ = some (.int .i64 a0_0) ∧ w'.cell? ⟨gb0, 1, none⟩ = some (.int .i64 a0_1) ∧ w'.cell? ⟨gb0, 2, none⟩ = some (.int .i64 a0_2) ∧ w'.cell? ⟨gb0, 3, none⟩ = some (.slice A0_3 l0_3.length c0_3) ∧ w'.cell? ⟨gb1, 0, none⟩ = some (.int .i64 a1_0) ∧ w'.cell? ⟨gb1, 1, none⟩ = some (.int .i64 a1_1) ∧ w'.cell? ⟨gb1, 2, none⟩ = some (.int .i64 a1_2) ∧ w'.cell? ⟨gb1, 3, none⟩ = some (.slice A1_3 l1_3.length c1_3) ∧ w'.cell? ⟨gb1, 4, none⟩ = some (.int .i64 a1_4) ∧ w'.cell? ⟨gb1, 5, none⟩ = some (.int .i64 a1_5) ∧ w'.cell? ⟨gb1, 6, none⟩ = some (.int .i64 a1_6) ∧ w'.cell? ⟨gb1, 7, none⟩ = some (.int .i64 a1_7) ∧ w'.cell? ⟨gb1, 8, none⟩ = some (.bool a1_8)) (ds := []) #[false, false, false, false, false, false, false, false, false, false, false] (by kernel_rfl) rfl rfl ⟨((blk_cell Kgb0.out 0).trans rfl), ((blk_cell Kgb0.out 1).trans rfl), ((blk_cell Kgb0.out 2).trans rfl), ((blk_cell Kgb0.out 3).trans rfl), ((blk_cell Kgb1.out 0).trans rfl), ((blk_cell Kgb1.out 1).trans rfl), ((blk_cell Kgb1.out 2).trans rfl), ((blk_cell Kgb1.out 3).trans rfl), ((blk_cell Kgb1.out 4).trans rfl), ((blk_cell Kgb1.out 5).trans rfl), ((blk_cell Kgb1.out 6).trans rfl), ((blk_cell Kgb1.out 7).trans rfl), ((blk_cell Kgb1.out 8).trans rfl)⟩ (fun hHeld => ?_)
  refine take_ (i := 0) (N := some 28) (v := ?_) (a' := ?_) #[true, false, false, false, false, false, false, false, false, false, false] rfl rfl (by kernel_rfl) (fun _ _ _ h => h) (Or.inl ⟨by rfl, ?_⟩) hHeld ?_ ?_
  rotate_left
  · rintro w' ⟨s0, s1, s2, s3, s4, s5, s6, s7, s8, s9, s10, s11, s12⟩
    go_simp
    with_reducible rfl
  rotate_left
  · simp only [Act.put, List.setIfInBounds_toArray, List.set_cons_zero, List.set_cons_succ, i64_w, i32_w]
    rfl
  refine take_ (i := 2) (N := some 30) (v := ?_) (a' := ?_) #[true, false, true, false, false, false, false, false, false, false, false] rfl rfl (by kernel_rfl) (fun _ _ _ h => h) (Or.inl ⟨by rfl, ?_⟩) hHeld ?_ ?_
  rotate_left
  · rintro w' ⟨s0, s1, s2, s3, s4, s5, s6, s7, s8, s9, s10, s11, s12⟩
    go_simp
    with_reducible rfl
  rotate_left
  · simp only [Act.put, List.setIfInBounds_toArray, List.set_cons_zero, List.set_cons_succ, i64_w, i32_w]
    rfl
  refine join_ (σ := Value × Value × Value × Nat) 2 #[true, true, true, true, true, true, true, true, true, false, false] (fun s_ => [(29, .agg #[.int .i64 x0_0, .int .i64 x0_1, .int .i64 x0_2, s_.1]), (31, .agg #[.int .i64 x1_0, .int .i64 x1_1, .int .i64 x1_2, s_.2.1, .int .i64 x1_4, .int .i64 x1_5, .int .i64 x1_6, .int .i64 x1_7, .bool x1_8]), (32, .tuple #[.agg #[.int .i64 v0, .int .i64 v1, .int .i64 v2, s_.2.2.1], .bool vok]), (27, .tuple #[.agg #[.int .i64 v0, .int .i64 v1, .int .i64 v2, s_.2.2.1], .bool vok]), (33, .agg #[.int .i64 v0, .int .i64 v1, .int .i64 v2, s_.2.2.1]), (34, .bool vok), (6, .pointer (some ⟨s_.2.2.2, 0, none⟩))]) (fun s_ w' => Kd.R (Kd.int .i64) 3 w' w.heap.size (fun k_ => wz1.heap.size ≤ k_ ∧ k_ < w'.heap.size) (s_.2.2.1) v3 ∧ w'.heap[s_.2.2.2]? = some (.cells #[.int .i64 0, .int .i64 0, .int .i64 0, .slice none 0 0] 27 (0, 0)) ∧ wz1.heap.size ≤ s_.2.2.2 ∧ w'.heap[gb0]? = some (.cells #[.int .i64 a0_0, .int .i64 a0_1, .int .i64 a0_2, .slice A0_3 l0_3.length c0_3] 24 (0, 0)) ∧ w'.heap[gb1]? = some (.cells #[.int .i64 a1_0, .int .i64 a1_1, .int .i64 a1_2, .slice A1_3 l1_3.length c1_3, .int .i64 a1_4, .int .i64 a1_5, .int .i64 a1_6, .int .i64 a1_7, .bool a1_8] 51 (0, 0)) ∧ Below w.heap.size w w' ∧ wz1.heap.size ≤ w'.heap.size) ?_ ?_
  rotate_left
  · intro hCont
    refine two_ (i := 1) (j := 8) (Ni := some 29) (Nj := some 6) #[true, true, true, false, false, false, false, false, false, false, false] #[true, false, true, false, false, false, false, false, true, false, false] rfl rfl rfl rfl (by kernel_rfl) (by decide) (by decide) (fun K hK => ?_) (fun K hK => ?_)
    · skip
      refine goes_ Try.func22 (by kernel_rfl) rfl #[.agg #[.int .i64 a0_0, .int .i64 a0_1, .int .i64 a0_2, .slice A0_3 l0_3.length c0_3]] (by rfl) rfl rfl (by simp only [List.map_toArray, List.map_cons, List.map_nil]; rfl) ?_
      with_reducible refine (laws_toImage.calls k a0_0 a0_1 a0_2 A0_3 c0_3 l0_3 x0_0 x0_1 x0_2 x0_3 _ (Kd.C_below HR0.out HB.out) HC0.out HT0.out).mono ?_
      rintro e w2 ⟨vt_, rfl, hr_, hb_⟩
      refine ⟨_, rfl, ?_⟩
      replace HB := Aside0.mk (below_then HB.out HB.out.size hb_)
      replace Kgb0 := Aside0.mk (blk_below Kgb0.out hb_)
      replace Kgb1 := Aside0.mk (blk_below Kgb1.out hb_)
      replace HZw := Aside0.mk (Nat.le_trans HZw.out hb_.size)
      obtain ⟨At0, ct0, rfl, hl_, hC_⟩ := Kd.R_reads hr_
      have HT_0 := Aside0.mk hC_
      have HL_0 := Aside0.mk hl_
      clear hr_ hb_ hl_ hC_
      refine hK.out _ _ ⟨((blk_cell Kgb0.out 0).trans rfl), ((blk_cell Kgb0.out 1).trans rfl), ((blk_cell Kgb0.out 2).trans rfl), ((blk_cell Kgb0.out 3).trans rfl), ((blk_cell Kgb1.out 0).trans rfl), ((blk_cell Kgb1.out 1).trans rfl), ((blk_cell Kgb1.out 2).trans rfl), ((blk_cell Kgb1.out 3).trans rfl), ((blk_cell Kgb1.out 4).trans rfl), ((blk_cell Kgb1.out 5).trans rfl), ((blk_cell Kgb1.out 6).trans rfl), ((blk_cell Kgb1.out 7).trans rfl), ((blk_cell Kgb1.out 8).trans rfl)⟩ (fun hHeld => ?_)
      clear hK K
      refine norm_ (a' := ?_) ?_ ?_
      rotate_left
      · show Act.put _ (some 29) _ = _
        simp only [Act.put, List.setIfInBounds_toArray, List.set_cons_zero, List.set_cons_succ, i64_w, i32_w]
        rfl
      refine two_ (i := 3) (j := 8) (Ni := some 31) (Nj := some 6) #[true, true, true, true, false, false, false, false, false, false, false] #[true, true, true, false, false, false, false, false, true, false, false] rfl rfl rfl rfl (by kernel_rfl) (by decide) (by decide) (fun K hK => ?_) (fun K hK => ?_)
      · skip
        refine goes_ Try.func41 (by kernel_rfl) rfl #[.agg #[.int .i64 a1_0, .int .i64 a1_1, .int .i64 a1_2, .slice A1_3 l1_3.length c1_3, .int .i64 a1_4, .int .i64 a1_5, .int .i64 a1_6, .int .i64 a1_7, .bool a1_8]] (by rfl) rfl rfl (by simp only [List.map_toArray, List.map_cons, List.map_nil]; rfl) ?_
        with_reducible refine (laws_toLayer.calls k a1_0 a1_1 a1_2 A1_3 c1_3 l1_3 a1_4 a1_5 a1_6 a1_7 a1_8 x1_0 x1_1 x1_2 x1_3 x1_4 x1_5 x1_6 x1_7 x1_8 _ (Kd.C_below HR1.out HB.out) HC1.out HT1.out).mono ?_
        rintro e w3 ⟨vt_, rfl, hr_, hb_⟩
        refine ⟨_, rfl, ?_⟩
        replace HB := Aside0.mk (below_then HB.out HB.out.size hb_)
        replace Kgb0 := Aside0.mk (blk_below Kgb0.out hb_)
        replace Kgb1 := Aside0.mk (blk_below Kgb1.out hb_)
        replace HT_0 := Aside0.mk (Kd.C_below HT_0.out hb_)
        replace HZw := Aside0.mk (Nat.le_trans HZw.out hb_.size)
        obtain ⟨At1, ct1, rfl, hl_, hC_⟩ := Kd.R_reads hr_
        have HT_1 := Aside0.mk hC_
        have HL_1 := Aside0.mk hl_
        clear hr_ hb_ hl_ hC_
        refine hK.out _ _ ⟨((blk_cell Kgb0.out 0).trans rfl), ((blk_cell Kgb0.out 1).trans rfl), ((blk_cell Kgb0.out 2).trans rfl), ((blk_cell Kgb0.out 3).trans rfl), ((blk_cell Kgb1.out 0).trans rfl), ((blk_cell Kgb1.out 1).trans rfl), ((blk_cell Kgb1.out 2).trans rfl), ((blk_cell Kgb1.out 3).trans rfl), ((blk_cell Kgb1.out 4).trans rfl), ((blk_cell Kgb1.out 5).trans rfl), ((blk_cell Kgb1.out 6).trans rfl), ((blk_cell Kgb1.out 7).trans rfl), ((blk_cell Kgb1.out 8).trans rfl)⟩ (fun hHeld => ?_)
        clear hK K
        refine norm_ (a' := ?_) ?_ ?_
        rotate_left
        · show Act.put _ (some 31) _ = _
          simp only [Act.put, List.setIfInBounds_toArray, List.set_cons_zero, List.set_cons_succ, i64_w, i32_w]
          rfl
        refine two_ (i := 4) (j := 8) (Ni := some 32) (Nj := some 6) #[true, true, true, true, true, false, false, false, false, false, false] #[true, true, true, true, false, false, false, false, true, false, false] rfl rfl rfl rfl (by kernel_rfl) (by decide) (by decide) (fun K hK => ?_) (fun K hK => ?_)
        · skip
          refine goes_ Try.func60 (by kernel_rfl) rfl #[.agg #[.int .i64 x0_0, .int .i64 x0_1, .int .i64 x0_2, .slice At0 x0_3.length ct0], .agg #[.int .i64 x1_0, .int .i64 x1_1, .int .i64 x1_2, .slice At1 x1_3.length ct1, .int .i64 x1_4, .int .i64 x1_5, .int .i64 x1_6, .int .i64 x1_7, .bool x1_8]] (by rfl) rfl rfl (by simp only [List.map_toArray, List.map_cons, List.map_nil]; rfl) ?_
          with_reducible refine (spec_CoverImage.calls k x0_0 x0_1 x0_2 At0 ct0 x0_3 x1_0 x1_1 x1_2 At1 ct1 x1_3 x1_4 x1_5 x1_6 x1_7 x1_8 v0 v1 v2 v3 vok _ HT_0.out HL_0.out HT_1.out HL_1.out HSP.out).mono ?_
          rintro e w4 ⟨vw_, rfl, hr_, hb_⟩
          refine ⟨_, rfl, ?_⟩
          have HZp_ := HZw
          have HBp_ := HB
          replace HB := Aside0.mk (below_then HB.out HB.out.size hb_)
          replace Kgb0 := Aside0.mk (blk_below Kgb0.out hb_)
          replace Kgb1 := Aside0.mk (blk_below Kgb1.out hb_)
          replace HT_0 := Aside0.mk (Kd.C_below HT_0.out hb_)
          replace HT_1 := Aside0.mk (Kd.C_below HT_1.out hb_)
          replace HZw := Aside0.mk (Nat.le_trans HZw.out hb_.size)
          have Rw := Aside0.mk (Kd.R_lower (Kd.R_mono (Kd.R_bound hr_) (fun k_ hk_ => (⟨Nat.le_trans HZp_.out hk_.2.1, hk_.2.2.1⟩ : wz1.heap.size ≤ k_ ∧ k_ < w4.heap.size))) HBp_.out.size)
          clear hr_ hb_ HZp_ HBp_
          refine hK.out _ _ ⟨((blk_cell Kgb0.out 0).trans rfl), ((blk_cell Kgb0.out 1).trans rfl), ((blk_cell Kgb0.out 2).trans rfl), ((blk_cell Kgb0.out 3).trans rfl), ((blk_cell Kgb1.out 0).trans rfl), ((blk_cell Kgb1.out 1).trans rfl), ((blk_cell Kgb1.out 2).trans rfl), ((blk_cell Kgb1.out 3).trans rfl), ((blk_cell Kgb1.out 4).trans rfl), ((blk_cell Kgb1.out 5).trans rfl), ((blk_cell Kgb1.out 6).trans rfl), ((blk_cell Kgb1.out 7).trans rfl), ((blk_cell Kgb1.out 8).trans rfl)⟩ (fun hHeld => ?_)
          clear hK K
          refine norm_ (a' := ?_) ?_ ?_
          rotate_left
          · show Act.put _ (some 32) _ = _
            simp only [Act.put, List.setIfInBounds_toArray, List.set_cons_zero, List.set_cons_succ, i64_w, i32_w]
            rfl
          refine pure_ (i := 5) (N := some 27) (v := ?_) (a' := ?_) #[true, true, true, true, true, true, false, false, false, false, false] rfl rfl (by kernel_rfl) (fun _ _ _ h => h) (Or.inl ⟨by rfl, ?_⟩) ?_ ?_
          rotate_left
          · intro w'
            go_simp
            with_reducible rfl
          rotate_left
          · simp only [Act.put, List.setIfInBounds_toArray, List.set_cons_zero, List.set_cons_succ, i64_w, i32_w]
            rfl
          refine pure_ (i := 6) (N := some 33) (v := ?_) (a' := ?_) #[true, true, true, true, true, true, true, false, false, false, false] rfl rfl (by kernel_rfl) (fun _ _ _ h => h) (Or.inl ⟨by rfl, ?_⟩) ?_ ?_
          rotate_left
          · intro w'
            go_simp
            with_reducible rfl
          rotate_left
          · simp only [Act.put, List.setIfInBounds_toArray, List.set_cons_zero, List.set_cons_succ, i64_w, i32_w]
            rfl
          refine pure_ (i := 7) (N := some 34) (v := ?_) (a' := ?_) #[true, true, true, true, true, true, true, true, false, false, false] rfl rfl (by kernel_rfl) (fun _ _ _ h => h) (Or.inl ⟨by rfl, ?_⟩) ?_ ?_
          rotate_left
          · intro w'
            go_simp
            with_reducible rfl
          rotate_left
          · simp only [Act.put, List.setIfInBounds_toArray, List.set_cons_zero, List.set_cons_succ, i64_w, i32_w]
            rfl
          refine one_ (i := 8) (N := some 6) #[true, true, true, true, true, true, true, true, true, false, false] rfl rfl (by kernel_rfl) (by decide) (fun K hK => ?_)
          refine value_ (w1 := ?_) (v := ?_) (by rfl) rfl ?_ ?_
          rotate_left 2
          · go_simp
            constructor
            · rfl
            · rfl
          replace HB := Aside0.mk (below_alloc HB.out (.cells #[.int .i64 0, .int .i64 0, .int .i64 0, .slice none 0 0] 27))
          replace Kgb0 := Aside0.mk (blk_alloc Kgb0.out (.cells #[.int .i64 0, .int .i64 0, .int .i64 0, .slice none 0 0] 27))
          replace Kgb1 := Aside0.mk (blk_alloc Kgb1.out (.cells #[.int .i64 0, .int .i64 0, .int .i64 0, .slice none 0 0] 27))
          replace HT_0 := Aside0.mk (Kd.C_alloc HT_0.out (.cells #[.int .i64 0, .int .i64 0, .int .i64 0, .slice none 0 0] 27))
          replace HT_1 := Aside0.mk (Kd.C_alloc HT_1.out (.cells #[.int .i64 0, .int .i64 0, .int .i64 0, .slice none 0 0] 27))
          replace Rw := Aside0.mk (Kd.R_mono (Kd.R_bound (Kd.R_alloc Rw.out (.cells #[.int .i64 0, .int .i64 0, .int .i64 0, .slice none 0 0] 27))) (fun k_ hk_ => (⟨hk_.1.1, hk_.2.2.1⟩ : wz1.heap.size ≤ k_ ∧ k_ < (w4.alloc (.cells #[.int .i64 0, .int .i64 0, .int .i64 0, .slice none 0 0] 27)).heap.size)))
          have KA_ := Aside0.mk (blk_new w4 (.cells #[.int .i64 0, .int .i64 0, .int .i64 0, .slice none 0 0] 27 (0, 0)))
          have GA_ := HZw
          replace HZw := Aside0.mk (Nat.le_trans HZw.out (below_alloc (Below.refl _ _) (.cells #[.int .i64 0, .int .i64 0, .int .i64 0, .slice none 0 0] 27)).size)
          refine hK.out _ _ ⟨((blk_cell Kgb0.out 0).trans rfl), ((blk_cell Kgb0.out 1).trans rfl), ((blk_cell Kgb0.out 2).trans rfl), ((blk_cell Kgb0.out 3).trans rfl), ((blk_cell Kgb1.out 0).trans rfl), ((blk_cell Kgb1.out 1).trans rfl), ((blk_cell Kgb1.out 2).trans rfl), ((blk_cell Kgb1.out 3).trans rfl), ((blk_cell Kgb1.out 4).trans rfl), ((blk_cell Kgb1.out 5).trans rfl), ((blk_cell Kgb1.out 6).trans rfl), ((blk_cell Kgb1.out 7).trans rfl), ((blk_cell Kgb1.out 8).trans rfl)⟩ (fun hHeld => ?_)
          clear hK K
          refine norm_ (a' := ?_) ?_ ?_
          rotate_left
          · show Act.put _ (some 6) _ = _
            simp only [Act.put, List.setIfInBounds_toArray, List.set_cons_zero, List.set_cons_succ, i64_w, i32_w]
            rfl
          exact norm_ (by first | (simp only [putAll, Act.put, List.setIfInBounds_toArray, List.set_cons_zero, List.set_cons_succ]; done) | (simp only [putAll, Act.put, List.setIfInBounds_toArray, List.set_cons_zero, List.set_cons_succ]; rfl)) (hCont (.slice At0 x0_3.length ct0, .slice At1 x1_3.length ct1, vw_, w4.heap.size) _ ⟨Rw.out, KA_.out, GA_.out, Kgb0.out, Kgb1.out, HB.out, HZw.out⟩)
        · skip
          refine value_ (w1 := ?_) (v := ?_) (by rfl) rfl ?_ ?_
          rotate_left 2
          · go_simp
            constructor
            · rfl
            · rfl
          replace HB := Aside0.mk (below_alloc HB.out (.cells #[.int .i64 0, .int .i64 0, .int .i64 0, .slice none 0 0] 27))
          replace Kgb0 := Aside0.mk (blk_alloc Kgb0.out (.cells #[.int .i64 0, .int .i64 0, .int .i64 0, .slice none 0 0] 27))
          replace Kgb1 := Aside0.mk (blk_alloc Kgb1.out (.cells #[.int .i64 0, .int .i64 0, .int .i64 0, .slice none 0 0] 27))
          replace HT_0 := Aside0.mk (Kd.C_alloc HT_0.out (.cells #[.int .i64 0, .int .i64 0, .int .i64 0, .slice none 0 0] 27))
          replace HT_1 := Aside0.mk (Kd.C_alloc HT_1.out (.cells #[.int .i64 0, .int .i64 0, .int .i64 0, .slice none 0 0] 27))
          have KA_ := Aside0.mk (blk_new w3 (.cells #[.int .i64 0, .int .i64 0, .int .i64 0, .slice none 0 0] 27 (0, 0)))
          have GA_ := HZw
          replace HZw := Aside0.mk (Nat.le_trans HZw.out (below_alloc (Below.refl _ _) (.cells #[.int .i64 0, .int .i64 0, .int .i64 0, .slice none 0 0] 27)).size)
          refine hK.out _ _ ⟨((blk_cell Kgb0.out 0).trans rfl), ((blk_cell Kgb0.out 1).trans rfl), ((blk_cell Kgb0.out 2).trans rfl), ((blk_cell Kgb0.out 3).trans rfl), ((blk_cell Kgb1.out 0).trans rfl), ((blk_cell Kgb1.out 1).trans rfl), ((blk_cell Kgb1.out 2).trans rfl), ((blk_cell Kgb1.out 3).trans rfl), ((blk_cell Kgb1.out 4).trans rfl), ((blk_cell Kgb1.out 5).trans rfl), ((blk_cell Kgb1.out 6).trans rfl), ((blk_cell Kgb1.out 7).trans rfl), ((blk_cell Kgb1.out 8).trans rfl)⟩ (fun hHeld => ?_)
          clear hK K
          refine norm_ (a' := ?_) ?_ ?_
          rotate_left
          · show Act.put _ (some 6) _ = _
            simp only [Act.put, List.setIfInBounds_toArray, List.set_cons_zero, List.set_cons_succ, i64_w, i32_w]
            rfl
          refine one_ (i := 4) (N := some 32) #[true, true, true, true, true, false, false, false, true, false, false] rfl rfl (by kernel_rfl) (by decide) (fun K hK => ?_)
          refine goes_ Try.func60 (by kernel_rfl) rfl #[.agg #[.int .i64 x0_0, .int .i64 x0_1, .int .i64 x0_2, .slice At0 x0_3.length ct0], .agg #[.int .i64 x1_0, .int .i64 x1_1, .int .i64 x1_2, .slice At1 x1_3.length ct1, .int .i64 x1_4, .int .i64 x1_5, .int .i64 x1_6, .int .i64 x1_7, .bool x1_8]] (by rfl) rfl rfl (by simp only [List.map_toArray, List.map_cons, List.map_nil]; rfl) ?_
          with_reducible refine (spec_CoverImage.calls k x0_0 x0_1 x0_2 At0 ct0 x0_3 x1_0 x1_1 x1_2 At1 ct1 x1_3 x1_4 x1_5 x1_6 x1_7 x1_8 v0 v1 v2 v3 vok _ HT_0.out HL_0.out HT_1.out HL_1.out HSP.out).mono ?_
          rintro e w7 ⟨vw_, rfl, hr_, hb_⟩
          refine ⟨_, rfl, ?_⟩
          have HZp_ := HZw
          have HBp_ := HB
          replace HB := Aside0.mk (below_then HB.out HB.out.size hb_)
          replace Kgb0 := Aside0.mk (blk_below Kgb0.out hb_)
          replace Kgb1 := Aside0.mk (blk_below Kgb1.out hb_)
          replace HT_0 := Aside0.mk (Kd.C_below HT_0.out hb_)
          replace HT_1 := Aside0.mk (Kd.C_below HT_1.out hb_)
          replace KA_ := Aside0.mk (blk_below KA_.out hb_)
          replace HZw := Aside0.mk (Nat.le_trans HZw.out hb_.size)
          have Rw := Aside0.mk (Kd.R_lower (Kd.R_mono (Kd.R_bound hr_) (fun k_ hk_ => (⟨Nat.le_trans HZp_.out hk_.2.1, hk_.2.2.1⟩ : wz1.heap.size ≤ k_ ∧ k_ < w7.heap.size))) HBp_.out.size)
          clear hr_ hb_ HZp_ HBp_
          refine hK.out _ _ ⟨((blk_cell Kgb0.out 0).trans rfl), ((blk_cell Kgb0.out 1).trans rfl), ((blk_cell Kgb0.out 2).trans rfl), ((blk_cell Kgb0.out 3).trans rfl), ((blk_cell Kgb1.out 0).trans rfl), ((blk_cell Kgb1.out 1).trans rfl), ((blk_cell Kgb1.out 2).trans rfl), ((blk_cell Kgb1.out 3).trans rfl), ((blk_cell Kgb1.out 4).trans rfl), ((blk_cell Kgb1.out 5).trans rfl), ((blk_cell Kgb1.out 6).trans rfl), ((blk_cell Kgb1.out 7).trans rfl), ((blk_cell Kgb1.out 8).trans rfl)⟩ (fun hHeld => ?_)
          clear hK K
          refine norm_ (a' := ?_) ?_ ?_
          rotate_left
          · show Act.put _ (some 32) _ = _
            simp only [Act.put, List.setIfInBounds_toArray, List.set_cons_zero, List.set_cons_succ, i64_w, i32_w]
            rfl
          refine pure_ (i := 5) (N := some 27) (v := ?_) (a' := ?_) #[true, true, true, true, true, true, false, false, true, false, false] rfl rfl (by kernel_rfl) (fun _ _ _ h => h) (Or.inl ⟨by rfl, ?_⟩) ?_ ?_
          rotate_left
          · intro w'
            go_simp
            with_reducible rfl
          rotate_left
          · simp only [Act.put, List.setIfInBounds_toArray, List.set_cons_zero, List.set_cons_succ, i64_w, i32_w]
            rfl
          refine pure_ (i := 6) (N := some 33) (v := ?_) (a' := ?_) #[true, true, true, true, true, true, true, false, true, false, false] rfl rfl (by kernel_rfl) (fun _ _ _ h => h) (Or.inl ⟨by rfl, ?_⟩) ?_ ?_
          rotate_left
          · intro w'
            go_simp
            with_reducible rfl
          rotate_left
          · simp only [Act.put, List.setIfInBounds_toArray, List.set_cons_zero, List.set_cons_succ, i64_w, i32_w]
            rfl
          refine pure_ (i := 7) (N := some 34) (v := ?_) (a' := ?_) #[true, true, true, true, true, true, true, true, true, false, false] rfl rfl (by kernel_rfl) (fun _ _ _ h => h) (Or.inl ⟨by rfl, ?_⟩) ?_ ?_
          rotate_left
          · intro w'
            go_simp
            with_reducible rfl
          rotate_left
          · simp only [Act.put, List.setIfInBounds_toArray, List.set_cons_zero, List.set_cons_succ, i64_w, i32_w]
            rfl
          exact norm_ (by first | (simp only [putAll, Act.put, List.setIfInBounds_toArray, List.set_cons_zero, List.set_cons_succ]; done) | (simp only [putAll, Act.put, List.setIfInBounds_toArray, List.set_cons_zero, List.set_cons_succ]; rfl)) (hCont (.slice At0 x0_3.length ct0, .slice At1 x1_3.length ct1, vw_, w3.heap.size) _ ⟨Rw.out, KA_.out, GA_.out, Kgb0.out, Kgb1.out, HB.out, HZw.out⟩)
      · skip
        refine value_ (w1 := ?_) (v := ?_) (by rfl) rfl ?_ ?_
        rotate_left 2
        · go_simp
          constructor
          · rfl
          · rfl
        replace HB := Aside0.mk (below_alloc HB.out (.cells #[.int .i64 0, .int .i64 0, .int .i64 0, .slice none 0 0] 27))
        replace Kgb0 := Aside0.mk (blk_alloc Kgb0.out (.cells #[.int .i64 0, .int .i64 0, .int .i64 0, .slice none 0 0] 27))
        replace Kgb1 := Aside0.mk (blk_alloc Kgb1.out (.cells #[.int .i64 0, .int .i64 0, .int .i64 0, .slice none 0 0] 27))
        replace HT_0 := Aside0.mk (Kd.C_alloc HT_0.out (.cells #[.int .i64 0, .int .i64 0, .int .i64 0, .slice none 0 0] 27))
        have KA_ := Aside0.mk (blk_new w2 (.cells #[.int .i64 0, .int .i64 0, .int .i64 0, .slice none 0 0] 27 (0, 0)))
        have GA_ := HZw
        replace HZw := Aside0.mk (Nat.le_trans HZw.out (below_alloc (Below.refl _ _) (.cells #[.int .i64 0, .int .i64 0, .int .i64 0, .slice none 0 0] 27)).size)
        refine hK.out _ _ ⟨((blk_cell Kgb0.out 0).trans rfl), ((blk_cell Kgb0.out 1).trans rfl), ((blk_cell Kgb0.out 2).trans rfl), ((blk_cell Kgb0.out 3).trans rfl), ((blk_cell Kgb1.out 0).trans rfl), ((blk_cell Kgb1.out 1).trans rfl), ((blk_cell Kgb1.out 2).trans rfl), ((blk_cell Kgb1.out 3).trans rfl), ((blk_cell Kgb1.out 4).trans rfl), ((blk_cell Kgb1.out 5).trans rfl), ((blk_cell Kgb1.out 6).trans rfl), ((blk_cell Kgb1.out 7).trans rfl), ((blk_cell Kgb1.out 8).trans rfl)⟩ (fun hHeld => ?_)
        clear hK K
        refine norm_ (a' := ?_) ?_ ?_
        rotate_left
        · show Act.put _ (some 6) _ = _
          simp only [Act.put, List.setIfInBounds_toArray, List.set_cons_zero, List.set_cons_succ, i64_w, i32_w]
          rfl
        refine one_ (i := 3) (N := some 31) #[true, true, true, true, false, false, false, false, true, false, false] rfl rfl (by kernel_rfl) (by decide) (fun K hK => ?_)
        refine goes_ Try.func41 (by kernel_rfl) rfl #[.agg #[.int .i64 a1_0, .int .i64 a1_1, .int .i64 a1_2, .slice A1_3 l1_3.length c1_3, .int .i64 a1_4, .int .i64 a1_5, .int .i64 a1_6, .int .i64 a1_7, .bool a1_8]] (by rfl) rfl rfl (by simp only [List.map_toArray, List.map_cons, List.map_nil]; rfl) ?_
        with_reducible refine (laws_toLayer.calls k a1_0 a1_1 a1_2 A1_3 c1_3 l1_3 a1_4 a1_5 a1_6 a1_7 a1_8 x1_0 x1_1 x1_2 x1_3 x1_4 x1_5 x1_6 x1_7 x1_8 _ (Kd.C_below HR1.out HB.out) HC1.out HT1.out).mono ?_
        rintro e w9 ⟨vt_, rfl, hr_, hb_⟩
        refine ⟨_, rfl, ?_⟩
        replace HB := Aside0.mk (below_then HB.out HB.out.size hb_)
        replace Kgb0 := Aside0.mk (blk_below Kgb0.out hb_)
        replace Kgb1 := Aside0.mk (blk_below Kgb1.out hb_)
        replace HT_0 := Aside0.mk (Kd.C_below HT_0.out hb_)
        replace KA_ := Aside0.mk (blk_below KA_.out hb_)
        replace HZw := Aside0.mk (Nat.le_trans HZw.out hb_.size)
        obtain ⟨At1, ct1, rfl, hl_, hC_⟩ := Kd.R_reads hr_
        have HT_1 := Aside0.mk hC_
        have HL_1 := Aside0.mk hl_
        clear hr_ hb_ hl_ hC_
        refine hK.out _ _ ⟨((blk_cell Kgb0.out 0).trans rfl), ((blk_cell Kgb0.out 1).trans rfl), ((blk_cell Kgb0.out 2).trans rfl), ((blk_cell Kgb0.out 3).trans rfl), ((blk_cell Kgb1.out 0).trans rfl), ((blk_cell Kgb1.out 1).trans rfl), ((blk_cell Kgb1.out 2).trans rfl), ((blk_cell Kgb1.out 3).trans rfl), ((blk_cell Kgb1.out 4).trans rfl), ((blk_cell Kgb1.out 5).trans rfl), ((blk_cell Kgb1.out 6).trans rfl), ((blk_cell Kgb1.out 7).trans rfl), ((blk_cell Kgb1.out 8).trans rfl)⟩ (fun hHeld => ?_)
        clear hK K
        refine norm_ (a' := ?_) ?_ ?_
        rotate_left
        · show Act.put _ (some 31) _ = _
          simp only [Act.put, List.setIfInBounds_toArray, List.set_cons_zero, List.set_cons_succ, i64_w, i32_w]
          rfl
        refine one_ (i := 4) (N := some 32) #[true, true, true, true, true, false, false, false, true, false, false] rfl rfl (by kernel_rfl) (by decide) (fun K hK => ?_)
        refine goes_ Try.func60 (by kernel_rfl) rfl #[.agg #[.int .i64 x0_0, .int .i64 x0_1, .int .i64 x0_2, .slice At0 x0_3.length ct0], .agg #[.int .i64 x1_0, .int .i64 x1_1, .int .i64 x1_2, .slice At1 x1_3.length ct1, .int .i64 x1_4, .int .i64 x1_5, .int .i64 x1_6, .int .i64 x1_7, .bool x1_8]] (by rfl) rfl rfl (by simp only [List.map_toArray, List.map_cons, List.map_nil]; rfl) ?_
        with_reducible refine (spec_CoverImage.calls k x0_0 x0_1 x0_2 At0 ct0 x0_3 x1_0 x1_1 x1_2 At1 ct1 x1_3 x1_4 x1_5 x1_6 x1_7 x1_8 v0 v1 v2 v3 vok _ HT_0.out HL_0.out HT_1.out HL_1.out HSP.out).mono ?_
        rintro e w10 ⟨vw_, rfl, hr_, hb_⟩
        refine ⟨_, rfl, ?_⟩
        have HZp_ := HZw
        have HBp_ := HB
        replace HB := Aside0.mk (below_then HB.out HB.out.size hb_)
        replace Kgb0 := Aside0.mk (blk_below Kgb0.out hb_)
        replace Kgb1 := Aside0.mk (blk_below Kgb1.out hb_)
        replace HT_0 := Aside0.mk (Kd.C_below HT_0.out hb_)
        replace HT_1 := Aside0.mk (Kd.C_below HT_1.out hb_)
        replace KA_ := Aside0.mk (blk_below KA_.out hb_)
        replace HZw := Aside0.mk (Nat.le_trans HZw.out hb_.size)
        have Rw := Aside0.mk (Kd.R_lower (Kd.R_mono (Kd.R_bound hr_) (fun k_ hk_ => (⟨Nat.le_trans HZp_.out hk_.2.1, hk_.2.2.1⟩ : wz1.heap.size ≤ k_ ∧ k_ < w10.heap.size))) HBp_.out.size)
        clear hr_ hb_ HZp_ HBp_
        refine hK.out _ _ ⟨((blk_cell Kgb0.out 0).trans rfl), ((blk_cell Kgb0.out 1).trans rfl), ((blk_cell Kgb0.out 2).trans rfl), ((blk_cell Kgb0.out 3).trans rfl), ((blk_cell Kgb1.out 0).trans rfl), ((blk_cell Kgb1.out 1).trans rfl), ((blk_cell Kgb1.out 2).trans rfl), ((blk_cell Kgb1.out 3).trans rfl), ((blk_cell Kgb1.out 4).trans rfl), ((blk_cell Kgb1.out 5).trans rfl), ((blk_cell Kgb1.out 6).trans rfl), ((blk_cell Kgb1.out 7).trans rfl), ((blk_cell Kgb1.out 8).trans rfl)⟩ (fun hHeld => ?_)
        clear hK K
        refine norm_ (a' := ?_) ?_ ?_
        rotate_left
        · show Act.put _ (some 32) _ = _
          simp only [Act.put, List.setIfInBounds_toArray, List.set_cons_zero, List.set_cons_succ, i64_w, i32_w]
          rfl
        refine pure_ (i := 5) (N := some 27) (v := ?_) (a' := ?_) #[true, true, true, true, true, true, false, false, true, false, false] rfl rfl (by kernel_rfl) (fun _ _ _ h => h) (Or.inl ⟨by rfl, ?_⟩) ?_ ?_
        rotate_left
        · intro w'
          go_simp
          with_reducible rfl
        rotate_left
        · simp only [Act.put, List.setIfInBounds_toArray, List.set_cons_zero, List.set_cons_succ, i64_w, i32_w]
          rfl
        refine pure_ (i := 6) (N := some 33) (v := ?_) (a' := ?_) #[true, true, true, true, true, true, true, false, true, false, false] rfl rfl (by kernel_rfl) (fun _ _ _ h => h) (Or.inl ⟨by rfl, ?_⟩) ?_ ?_
        rotate_left
        · intro w'
          go_simp
          with_reducible rfl
        rotate_left
        · simp only [Act.put, List.setIfInBounds_toArray, List.set_cons_zero, List.set_cons_succ, i64_w, i32_w]
          rfl
        refine pure_ (i := 7) (N := some 34) (v := ?_) (a' := ?_) #[true, true, true, true, true, true, true, true, true, false, false] rfl rfl (by kernel_rfl) (fun _ _ _ h => h) (Or.inl ⟨by rfl, ?_⟩) ?_ ?_
        rotate_left
        · intro w'
          go_simp
          with_reducible rfl
        rotate_left
        · simp only [Act.put, List.setIfInBounds_toArray, List.set_cons_zero, List.set_cons_succ, i64_w, i32_w]
          rfl
        exact norm_ (by first | (simp only [putAll, Act.put, List.setIfInBounds_toArray, List.set_cons_zero, List.set_cons_succ]; done) | (simp only [putAll, Act.put, List.setIfInBounds_toArray, List.set_cons_zero, List.set_cons_succ]; rfl)) (hCont (.slice At0 x0_3.length ct0, .slice At1 x1_3.length ct1, vw_, w2.heap.size) _ ⟨Rw.out, KA_.out, GA_.out, Kgb0.out, Kgb1.out, HB.out, HZw.out⟩)
    · skip
      refine value_ (w1 := ?_) (v := ?_) (by rfl) rfl ?_ ?_
      rotate_left 2
      · go_simp
        constructor
        · rfl
        · rfl
      replace HB := Aside0.mk (below_alloc HB.out (.cells #[.int .i64 0, .int .i64 0, .int .i64 0, .slice none 0 0] 27))
      replace Kgb0 := Aside0.mk (blk_alloc Kgb0.out (.cells #[.int .i64 0, .int .i64 0, .int .i64 0, .slice none 0 0] 27))
      replace Kgb1 := Aside0.mk (blk_alloc Kgb1.out (.cells #[.int .i64 0, .int .i64 0, .int .i64 0, .slice none 0 0] 27))
      have KA_ := Aside0.mk (blk_new wz1.drew (.cells #[.int .i64 0, .int .i64 0, .int .i64 0, .slice none 0 0] 27 (0, 0)))
      have GA_ := HZw
      replace HZw := Aside0.mk (Nat.le_trans HZw.out (below_alloc (Below.refl _ _) (.cells #[.int .i64 0, .int .i64 0, .int .i64 0, .slice none 0 0] 27)).size)
      refine hK.out _ _ ⟨((blk_cell Kgb0.out 0).trans rfl), ((blk_cell Kgb0.out 1).trans rfl), ((blk_cell Kgb0.out 2).trans rfl), ((blk_cell Kgb0.out 3).trans rfl), ((blk_cell Kgb1.out 0).trans rfl), ((blk_cell Kgb1.out 1).trans rfl), ((blk_cell Kgb1.out 2).trans rfl), ((blk_cell Kgb1.out 3).trans rfl), ((blk_cell Kgb1.out 4).trans rfl), ((blk_cell Kgb1.out 5).trans rfl), ((blk_cell Kgb1.out 6).trans rfl), ((blk_cell Kgb1.out 7).trans rfl), ((blk_cell Kgb1.out 8).trans rfl)⟩ (fun hHeld => ?_)
      clear hK K
      refine norm_ (a' := ?_) ?_ ?_
      rotate_left
      · show Act.put _ (some 6) _ = _
        simp only [Act.put, List.setIfInBounds_toArray, List.set_cons_zero, List.set_cons_succ, i64_w, i32_w]
        rfl
      refine one_ (i := 1) (N := some 29) #[true, true, true, false, false, false, false, false, true, false, false] rfl rfl (by kernel_rfl) (by decide) (fun K hK => ?_)
      refine goes_ Try.func22 (by kernel_rfl) rfl #[.agg #[.int .i64 a0_0, .int .i64 a0_1, .int .i64 a0_2, .slice A0_3 l0_3.length c0_3]] (by rfl) rfl rfl (by simp only [List.map_toArray, List.map_cons, List.map_nil]; rfl) ?_
      refine (laws_toImage.calls k a0_0 a0_1 a0_2 A0_3 c0_3 l0_3 x0_0 x0_1 x0_2 x0_3 _ (Kd.C_below HR0.out HB.out) HC0.out HT0.out).mono ?_
      rintro e w12 ⟨vt_, rfl, hr_, hb_⟩
      refine ⟨_, rfl, ?_⟩
      replace HB := Aside0.mk (below_then HB.out HB.out.size hb_)
      replace Kgb0 := Aside0.mk (blk_below Kgb0.out hb_)
      replace Kgb1 := Aside0.mk (blk_below Kgb1.out hb_)
      replace KA_ := Aside0.mk (blk_below KA_.out hb_)
      replace HZw := Aside0.mk (Nat.le_trans HZw.out hb_.size)
      obtain ⟨At0, ct0, rfl, hl_, hC_⟩ := Kd.R_reads hr_
      have HT_0 := Aside0.mk hC_
      have HL_0 := Aside0.mk hl_
      clear hr_ hb_ hl_ hC_
      refine hK.out _ _ ⟨((blk_cell Kgb0.out 0).trans rfl), ((blk_cell Kgb0.out 1).trans rfl), ((blk_cell Kgb0.out 2).trans rfl), ((blk_cell Kgb0.out 3).trans rfl), ((blk_cell Kgb1.out 0).trans rfl), ((blk_cell Kgb1.out 1).trans rfl), ((blk_cell Kgb1.out 2).trans rfl), ((blk_cell Kgb1.out 3).trans rfl), ((blk_cell Kgb1.out 4).trans rfl), ((blk_cell Kgb1.out 5).trans rfl), ((blk_cell Kgb1.out 6).trans rfl), ((blk_cell Kgb1.out 7).trans rfl), ((blk_cell Kgb1.out 8).trans rfl)⟩ (fun hHeld => ?_)
      clear hK K
      refine norm_ (a' := ?_) ?_ ?_
      rotate_left
      · show Act.put _ (some 29) _ = _
        simp only [Act.put, List.setIfInBounds_toArray, List.set_cons_zero, List.set_cons_succ, i64_w, i32_w]
        rfl
      refine one_ (i := 3) (N := some 31) #[true, true, true, true, false, false, false, false, true, false, false] rfl rfl (by kernel_rfl) (by decide) (fun K hK => ?_)
      refine goes_ Try.func41 (by kernel_rfl) rfl #[.agg #[.int .i64 a1_0, .int .i64 a1_1, .int .i64 a1_2, .slice A1_3 l1_3.length c1_3, .int .i64 a1_4, .int .i64 a1_5, .int .i64 a1_6, .int .i64 a1_7, .bool a1_8]] (by rfl) rfl rfl (by simp only [List.map_toArray, List.map_cons, List.map_nil]; rfl) ?_
      with_reducible refine (laws_toLayer.calls k a1_0 a1_1 a1_2 A1_3 c1_3 l1_3 a1_4 a1_5 a1_6 a1_7 a1_8 x1_0 x1_1 x1_2 x1_3 x1_4 x1_5 x1_6 x1_7 x1_8 _ (Kd.C_below HR1.out HB.out) HC1.out HT1.out).mono ?_
      rintro e w13 ⟨vt_, rfl, hr_, hb_⟩
      refine ⟨_, rfl, ?_⟩
      replace HB := Aside0.mk (below_then HB.out HB.out.size hb_)
      replace Kgb0 := Aside0.mk (blk_below Kgb0.out hb_)
      replace Kgb1 := Aside0.mk (blk_below Kgb1.out hb_)
      replace HT_0 := Aside0.mk (Kd.C_below HT_0.out hb_)
      replace KA_ := Aside0.mk (blk_below KA_.out hb_)
      replace HZw := Aside0.mk (Nat.le_trans HZw.out hb_.size)
      obtain ⟨At1, ct1, rfl, hl_, hC_⟩ := Kd.R_reads hr_
      have HT_1 := Aside0.mk hC_
      have HL_1 := Aside0.mk hl_
      clear hr_ hb_ hl_ hC_
      refine hK.out _ _ ⟨((blk_cell Kgb0.out 0).trans rfl), ((blk_cell Kgb0.out 1).trans rfl), ((blk_cell Kgb0.out 2).trans rfl), ((blk_cell Kgb0.out 3).trans rfl), ((blk_cell Kgb1.out 0).trans rfl), ((blk_cell Kgb1.out 1).trans rfl), ((blk_cell Kgb1.out 2).trans rfl), ((blk_cell Kgb1.out 3).trans rfl), ((blk_cell Kgb1.out 4).trans rfl), ((blk_cell Kgb1.out 5).trans rfl), ((blk_cell Kgb1.out 6).trans rfl), ((blk_cell Kgb1.out 7).trans rfl), ((blk_cell Kgb1.out 8).trans rfl)⟩ (fun hHeld => ?_)
      clear hK K
      refine norm_ (a' := ?_) ?_ ?_
      rotate_left
      · show Act.put _ (some 31) _ = _
        simp only [Act.put, List.setIfInBounds_toArray, List.set_cons_zero, List.set_cons_succ, i64_w, i32_w]
        rfl
      refine one_ (i := 4) (N := some 32) #[true, true, true, true, true, false, false, false, true, false, false] rfl rfl (by kernel_rfl) (by decide) (fun K hK => ?_)
      refine goes_ Try.func60 (by kernel_rfl) rfl #[.agg #[.int .i64 x0_0, .int .i64 x0_1, .int .i64 x0_2, .slice At0 x0_3.length ct0], .agg #[.int .i64 x1_0, .int .i64 x1_1, .int .i64 x1_2, .slice At1 x1_3.length ct1, .int .i64 x1_4, .int .i64 x1_5, .int .i64 x1_6, .int .i64 x1_7, .bool x1_8]] (by rfl) rfl rfl (by simp only [List.map_toArray, List.map_cons, List.map_nil]; rfl) ?_
      with_reducible refine (spec_CoverImage.calls k x0_0 x0_1 x0_2 At0 ct0 x0_3 x1_0 x1_1 x1_2 At1 ct1 x1_3 x1_4 x1_5 x1_6 x1_7 x1_8 v0 v1 v2 v3 vok _ HT_0.out HL_0.out HT_1.out HL_1.out HSP.out).mono ?_
      rintro e w14 ⟨vw_, rfl, hr_, hb_⟩
      refine ⟨_, rfl, ?_⟩
      have HZp_ := HZw
      have HBp_ := HB
      replace HB := Aside0.mk (below_then HB.out HB.out.size hb_)
      replace Kgb0 := Aside0.mk (blk_below Kgb0.out hb_)
      replace Kgb1 := Aside0.mk (blk_below Kgb1.out hb_)
      replace HT_0 := Aside0.mk (Kd.C_below HT_0.out hb_)
      replace HT_1 := Aside0.mk (Kd.C_below HT_1.out hb_)
      replace KA_ := Aside0.mk (blk_below KA_.out hb_)
      replace HZw := Aside0.mk (Nat.le_trans HZw.out hb_.size)
      have Rw := Aside0.mk (Kd.R_lower (Kd.R_mono (Kd.R_bound hr_) (fun k_ hk_ => (⟨Nat.le_trans HZp_.out hk_.2.1, hk_.2.2.1⟩ : wz1.heap.size ≤ k_ ∧ k_ < w14.heap.size))) HBp_.out.size)
      clear hr_ hb_ HZp_ HBp_
      refine hK.out _ _ ⟨((blk_cell Kgb0.out 0).trans rfl), ((blk_cell Kgb0.out 1).trans rfl), ((blk_cell Kgb0.out 2).trans rfl), ((blk_cell Kgb0.out 3).trans rfl), ((blk_cell Kgb1.out 0).trans rfl), ((blk_cell Kgb1.out 1).trans rfl), ((blk_cell Kgb1.out 2).trans rfl), ((blk_cell Kgb1.out 3).trans rfl), ((blk_cell Kgb1.out 4).trans rfl), ((blk_cell Kgb1.out 5).trans rfl), ((blk_cell Kgb1.out 6).trans rfl), ((blk_cell Kgb1.out 7).trans rfl), ((blk_cell Kgb1.out 8).trans rfl)⟩ (fun hHeld => ?_)
      clear hK K
      refine norm_ (a' := ?_) ?_ ?_
      rotate_left
      · show Act.put _ (some 32) _ = _
        simp only [Act.put, List.setIfInBounds_toArray, List.set_cons_zero, List.set_cons_succ, i64_w, i32_w]
        rfl
      refine pure_ (i := 5) (N := some 27) (v := ?_) (a' := ?_) #[true, true, true, true, true, true, false, false, true, false, false] rfl rfl (by kernel_rfl) (fun _ _ _ h => h) (Or.inl ⟨by rfl, ?_⟩) ?_ ?_
      rotate_left
      · intro w'
        go_simp
        with_reducible rfl
      rotate_left
      · simp only [Act.put, List.setIfInBounds_toArray, List.set_cons_zero, List.set_cons_succ, i64_w, i32_w]
        rfl
      refine pure_ (i := 6) (N := some 33) (v := ?_) (a' := ?_) #[true, true, true, true, true, true, true, false, true, false, false] rfl rfl (by kernel_rfl) (fun _ _ _ h => h) (Or.inl ⟨by rfl, ?_⟩) ?_ ?_
      rotate_left
      · intro w'
        go_simp
        with_reducible rfl
      rotate_left
      · simp only [Act.put, List.setIfInBounds_toArray, List.set_cons_zero, List.set_cons_succ, i64_w, i32_w]
        rfl
      refine pure_ (i := 7) (N := some 34) (v := ?_) (a' := ?_) #[true, true, true, true, true, true, true, true, true, false, false] rfl rfl (by kernel_rfl) (fun _ _ _ h => h) (Or.inl ⟨by rfl, ?_⟩) ?_ ?_
      rotate_left
      · intro w'
        go_simp
        with_reducible rfl
      rotate_left
      · simp only [Act.put, List.setIfInBounds_toArray, List.set_cons_zero, List.set_cons_succ, i64_w, i32_w]
        rfl
      exact norm_ (by first | (simp only [putAll, Act.put, List.setIfInBounds_toArray, List.set_cons_zero, List.set_cons_succ]; done) | (simp only [putAll, Act.put, List.setIfInBounds_toArray, List.set_cons_zero, List.set_cons_succ]; rfl)) (hCont (.slice At0 x0_3.length ct0, .slice At1 x1_3.length ct1, vw_, wz1.drew.heap.size) _ ⟨Rw.out, KA_.out, GA_.out, Kgb0.out, Kgb1.out, HB.out, HZw.out⟩)
  rintro ⟨vt0_w, vt1_w, vvw, gw⟩ w1 ⟨hR_, hA_, hg_, hk_0, hk_1, hB_, hZ_⟩
  dsimp only at hR_ hA_ hg_
  obtain ⟨Aw, cw, ev_⟩ := Kd.R_slice hR_
  subst ev_
  have Rw := Aside0.mk hR_
  have Kgw := Aside0.mk hA_
  have Zgw := Aside0.mk hg_
  have HB := Aside0.mk hB_
  have HZw := Aside0.mk hZ_
  have Kgb0 := Aside0.mk hk_0
  have Kgb1 := Aside0.mk hk_1
  clear hR_ hA_ hg_ hB_ hZ_ hk_0 hk_1
  have hHeld : w1.cell? ⟨gb0, 0, none⟩ = some (.int .i64 a0_0) ∧ w1.cell? ⟨gb0, 1, none⟩ = some (.int .i64 a0_1) ∧ w1.cell? ⟨gb0, 2, none⟩ = some (.int .i64 a0_2) ∧ w1.cell? ⟨gb0, 3, none⟩ = some (.slice A0_3 l0_3.length c0_3) ∧ w1.cell? ⟨gb1, 0, none⟩ = some (.int .i64 a1_0) ∧ w1.cell? ⟨gb1, 1, none⟩ = some (.int .i64 a1_1) ∧ w1.cell? ⟨gb1, 2, none⟩ = some (.int .i64 a1_2) ∧ w1.cell? ⟨gb1, 3, none⟩ = some (.slice A1_3 l1_3.length c1_3) ∧ w1.cell? ⟨gb1, 4, none⟩ = some (.int .i64 a1_4) ∧ w1.cell? ⟨gb1, 5, none⟩ = some (.int .i64 a1_5) ∧ w1.cell? ⟨gb1, 6, none⟩ = some (.int .i64 a1_6) ∧ w1.cell? ⟨gb1, 7, none⟩ = some (.int .i64 a1_7) ∧ w1.cell? ⟨gb1, 8, none⟩ = some (.bool a1_8) := ⟨((blk_cell Kgb0.out 0).trans rfl), ((blk_cell Kgb0.out 1).trans rfl), ((blk_cell Kgb0.out 2).trans rfl), ((blk_cell Kgb0.out 3).trans rfl), ((blk_cell Kgb1.out 0).trans rfl), ((blk_cell Kgb1.out 1).trans rfl), ((blk_cell Kgb1.out 2).trans rfl), ((blk_cell Kgb1.out 3).trans rfl), ((blk_cell Kgb1.out 4).trans rfl), ((blk_cell Kgb1.out 5).trans rfl), ((blk_cell Kgb1.out 6).trans rfl), ((blk_cell Kgb1.out 7).trans rfl), ((blk_cell Kgb1.out 8).trans rfl)⟩
  refine norm_ (a' := ?_) ?_ ?_
  rotate_left
  · simp only [putAll, Act.put, List.setIfInBounds_toArray, List.set_cons_zero, List.set_cons_succ]
    rfl
  refine one_ (i := 9) (N := none) #[true, true, true, true, true, true, true, true, true, true, false] rfl rfl (by kernel_rfl) (by decide) (fun K hK => ?_)
  have qgw0 := blk_frozen Kgw.out 0
  have qgw1 := blk_frozen Kgw.out 1
  have qgw2 := blk_frozen Kgw.out 2
  have qgw3 := blk_frozen Kgw.out 3
  have cgw0 := (blk_cell Kgw.out 0).trans rfl
  have cgw1 := (blk_cell Kgw.out 1).trans rfl
  have cgw2 := (blk_cell Kgw.out 2).trans rfl
  have cgw3 := (blk_cell Kgw.out 3).trans rfl
  refine skip_ (w1 := ?_) (by rfl) rfl ?_ ?_
  rotate_left
  · go_simp
    rfl
  clear qgw0 cgw0 qgw1 cgw1 qgw2 cgw2 qgw3 cgw3
  have Kgb0_ := Aside0.mk (blk_far (p := ⟨gw, 3, none⟩) (blk_far (p := ⟨gw, 2, none⟩) (blk_far (p := ⟨gw, 1, none⟩) (blk_far (p := ⟨gw, 0, none⟩) Kgb0.out (show gb0 ≠ gw by have := Zgw.out; have := QKgb0.out; omega) (.int .i64 v0)) (show gb0 ≠ gw by have := Zgw.out; have := QKgb0.out; omega) (.int .i64 v1)) (show gb0 ≠ gw by have := Zgw.out; have := QKgb0.out; omega) (.int .i64 v2)) (show gb0 ≠ gw by have := Zgw.out; have := QKgb0.out; omega) (.slice Aw v3.length cw))
  have Kgb1_ := Aside0.mk (blk_far (p := ⟨gw, 3, none⟩) (blk_far (p := ⟨gw, 2, none⟩) (blk_far (p := ⟨gw, 1, none⟩) (blk_far (p := ⟨gw, 0, none⟩) Kgb1.out (show gb1 ≠ gw by have := Zgw.out; have := QKgb1.out; omega) (.int .i64 v0)) (show gb1 ≠ gw by have := Zgw.out; have := QKgb1.out; omega) (.int .i64 v1)) (show gb1 ≠ gw by have := Zgw.out; have := QKgb1.out; omega) (.int .i64 v2)) (show gb1 ≠ gw by have := Zgw.out; have := QKgb1.out; omega) (.slice Aw v3.length cw))
  refine hK.out _ _ ⟨((blk_cell Kgb0_.out 0).trans rfl), ((blk_cell Kgb0_.out 1).trans rfl), ((blk_cell Kgb0_.out 2).trans rfl), ((blk_cell Kgb0_.out 3).trans rfl), ((blk_cell Kgb1_.out 0).trans rfl), ((blk_cell Kgb1_.out 1).trans rfl), ((blk_cell Kgb1_.out 2).trans rfl), ((blk_cell Kgb1_.out 3).trans rfl), ((blk_cell Kgb1_.out 4).trans rfl), ((blk_cell Kgb1_.out 5).trans rfl), ((blk_cell Kgb1_.out 6).trans rfl), ((blk_cell Kgb1_.out 7).trans rfl), ((blk_cell Kgb1_.out 8).trans rfl)⟩ (fun hHeld => ?_)
  clear hK K
  refine pure_ (i := 10) (N := some 7) (v := ?_) (a' := ?_) #[true, true, true, true, true, true, true, true, true, true, true] rfl rfl (by kernel_rfl) (fun _ _ _ h => h) (Or.inl ⟨by rfl, ?_⟩) ?_ ?_
  rotate_left
  · intro w'
    go_simp
    with_reducible rfl
  rotate_left
  · simp only [Act.put, List.setIfInBounds_toArray, List.set_cons_zero, List.set_cons_succ, i64_w, i32_w]
    rfl
  refine done_ (by kernel_rfl) ?_
  obtain ⟨w15, hw15⟩ : ∃ W, W = ((((w1.setCell ⟨gw, 0, none⟩ (.int .i64 v0)).setCell ⟨gw, 1, none⟩ (.int .i64 v1)).setCell ⟨gw, 2, none⟩ (.int .i64 v2)).setCell ⟨gw, 3, none⟩ (.slice Aw v3.length cw)) := ⟨_, rfl⟩
  rw [← hw15]
  have HGgw := Aside0.mk (Nat.le_trans HB.out.size (Nat.le_refl _))
  replace HB := Aside0.mk (show Below w.heap.size w w15 from by rw [hw15]; exact (below_set (below_set (below_set (below_set HB.out (Nat.le_trans HBSw.out Zgw.out)) (Nat.le_trans HBSw.out Zgw.out)) (Nat.le_trans HBSw.out Zgw.out)) (Nat.le_trans HBSw.out Zgw.out)))
  have NZw := Aside0.mk (show wz1.heap.size ≤ w15.heap.size from by rw [hw15]; exact Nat.le_trans HZw.out (by simp [World.setCell]))
  have ZLgw := Aside0.mk (show gw < w15.heap.size from by rw [hw15]; exact Nat.lt_of_lt_of_le (blk_lt Kgw.out) (by simp [World.setCell]))
  replace Rw := Aside0.mk (show Kd.R (Kd.int .i64) 3 w15 w.heap.size (fun k_ => wz1.heap.size ≤ k_ ∧ k_ < w15.heap.size) (.slice Aw v3.length cw) v3 from by rw [hw15]; exact Kd.R_mono (Kd.R_far (Kd.R_far (Kd.R_far (Kd.R_far (Kd.R_types Rw.out Kgw.out (by decide)) (fun k hk => hk.2) _) (fun k hk => hk.2) _) (fun k hk => hk.2) _) (fun k hk => hk.2) _) (fun k hk => ⟨hk.1.1, Nat.lt_of_lt_of_le hk.1.2 (by simp [World.setCell])⟩))
  replace Kgb0 := Aside0.mk (show w15.heap[gb0]? = some (.cells #[.int .i64 a0_0, .int .i64 a0_1, .int .i64 a0_2, .slice A0_3 l0_3.length c0_3] 24 (0, 0)) from by rw [hw15]; exact Kgb0_.out)
  replace Kgb1 := Aside0.mk (show w15.heap[gb1]? = some (.cells #[.int .i64 a1_0, .int .i64 a1_1, .int .i64 a1_2, .slice A1_3 l1_3.length c1_3, .int .i64 a1_4, .int .i64 a1_5, .int .i64 a1_6, .int .i64 a1_7, .bool a1_8] 51 (0, 0)) from by rw [hw15]; exact Kgb1_.out)
  replace Kgw := Aside0.mk (show w15.heap[gw]? = some (.cells #[.int .i64 v0, .int .i64 v1, .int .i64 v2, .slice Aw v3.length cw] 27 (0, 0)) from by rw [hw15]; refine blk_put (cs := #[.int .i64 v0, .int .i64 v1, .int .i64 v2, .slice none 0 0]) ?_ 3 _ rfl; refine blk_put (cs := #[.int .i64 v0, .int .i64 v1, .int .i64 0, .slice none 0 0]) ?_ 2 _ rfl; refine blk_put (cs := #[.int .i64 v0, .int .i64 0, .int .i64 0, .slice none 0 0]) ?_ 1 _ rfl; refine blk_put (cs := #[.int .i64 0, .int .i64 0, .int .i64 0, .slice none 0 0]) ?_ 0 _ rfl; exact Kgw.out)
  clear hw15
  have cgb0w15_0 : w15.cell? ⟨gb0, 0, none⟩ = some (.int .i64 a0_0) := (blk_cell Kgb0.out 0).trans rfl; have cgb0w15_1 : w15.cell? ⟨gb0, 1, none⟩ = some (.int .i64 a0_1) := (blk_cell Kgb0.out 1).trans rfl; have cgb0w15_2 : w15.cell? ⟨gb0, 2, none⟩ = some (.int .i64 a0_2) := (blk_cell Kgb0.out 2).trans rfl; have cgb0w15_3 : w15.cell? ⟨gb0, 3, none⟩ = some (.slice A0_3 l0_3.length c0_3) := (blk_cell Kgb0.out 3).trans rfl
  go_upto_region 10 with (first
    | (go_at_call 22; (with_reducible refine (laws_toImage.calls k a0_0 a0_1 a0_2 A0_3 c0_3 l0_3 x0_0 x0_1 x0_2 x0_3 w15 (Kd.C_below HR0.out HB.out) HC0.out HT0.out).mono ?_); rintro e w16 ⟨v_, rfl, hr, hb⟩; obtain ⟨Ax0, cx0, ev_⟩ := Kd.R_slice hr; subst ev_; have Rx0 := Aside0.mk (Kd.R_lower (Kd.R_mono (Kd.R_bound hr) (fun k_ hk_ => (⟨hk_.2.1, hk_.2.2.1⟩ : w15.heap.size ≤ k_ ∧ k_ < w16.heap.size))) HB.out.size); replace HB := Aside0.mk (below_then HB.out HB.out.size hb); replace Kgb0 := Aside0.mk (blk_below Kgb0.out hb); replace Kgb1 := Aside0.mk (blk_below Kgb1.out hb); replace Kgw := Aside0.mk (blk_below Kgw.out hb); replace Rw := Aside0.mk (Kd.R_below Rw.out hb); have Zw16 := Aside0.mk hb.size; clear hr hb))
  try clear cgb0w15_0 cgb0w15_1 cgb0w15_2 cgb0w15_3
  obtain ⟨w17, hw17⟩ : ∃ W, W = w16.alloc (.cells #[.int .i64 x0_0, .int .i64 x0_1, .int .i64 x0_2, .slice Ax0 x0_3.length cx0] 27) := ⟨_, rfl⟩
  obtain ⟨gx0, hgx0⟩ : ∃ g, g = w16.heap.size := ⟨_, rfl⟩
  rw [← hw17, ← hgx0]
  have Kgx0 := Aside0.mk (show w17.heap[gx0]? = some (.cells #[.int .i64 x0_0, .int .i64 x0_1, .int .i64 x0_2, .slice Ax0 x0_3.length cx0] 27 (0, 0)) from by rw [hw17, hgx0]; exact blk_new _ _)
  replace HB := Aside0.mk (show Below w.heap.size w w17 from by rw [hw17]; exact below_alloc HB.out _)
  replace Kgb0 := Aside0.mk (show w17.heap[gb0]? = some (.cells #[.int .i64 a0_0, .int .i64 a0_1, .int .i64 a0_2, .slice A0_3 l0_3.length c0_3] 24 (0, 0)) from by rw [hw17]; exact blk_alloc Kgb0.out _)
  replace Kgb1 := Aside0.mk (show w17.heap[gb1]? = some (.cells #[.int .i64 a1_0, .int .i64 a1_1, .int .i64 a1_2, .slice A1_3 l1_3.length c1_3, .int .i64 a1_4, .int .i64 a1_5, .int .i64 a1_6, .int .i64 a1_7, .bool a1_8] 51 (0, 0)) from by rw [hw17]; exact blk_alloc Kgb1.out _)
  replace Kgw := Aside0.mk (show w17.heap[gw]? = some (.cells #[.int .i64 v0, .int .i64 v1, .int .i64 v2, .slice Aw v3.length cw] 27 (0, 0)) from by rw [hw17]; exact blk_alloc Kgw.out _)
  replace Rw := Aside0.mk (show Kd.R (Kd.int .i64) 3 w17 w.heap.size (fun k_ => wz1.heap.size ≤ k_ ∧ k_ < w15.heap.size) (.slice Aw v3.length cw) v3 from by rw [hw17]; exact Kd.R_alloc Rw.out _)
  replace Rx0 := Aside0.mk (show Kd.R (Kd.int .i64) 3 w17 w.heap.size (fun k_ => w15.heap.size ≤ k_ ∧ k_ < w16.heap.size) (.slice Ax0 x0_3.length cx0) x0_3 from by rw [hw17]; exact Kd.R_alloc Rx0.out _)
  have Zw17 := Aside0.mk (show w16.heap.size < w17.heap.size from by rw [hw17]; simp [World.size_alloc])
  have Zgx0 := Aside0.mk (show w16.heap.size ≤ gx0 from Nat.le_of_eq hgx0.symm)
  have ZLgx0 := Aside0.mk (blk_lt Kgx0.out)
  clear hw17 hgx0
  have cgb1w17_0 : w17.cell? ⟨gb1, 0, none⟩ = some (.int .i64 a1_0) := (blk_cell Kgb1.out 0).trans rfl; have cgb1w17_1 : w17.cell? ⟨gb1, 1, none⟩ = some (.int .i64 a1_1) := (blk_cell Kgb1.out 1).trans rfl; have cgb1w17_2 : w17.cell? ⟨gb1, 2, none⟩ = some (.int .i64 a1_2) := (blk_cell Kgb1.out 2).trans rfl; have cgb1w17_3 : w17.cell? ⟨gb1, 3, none⟩ = some (.slice A1_3 l1_3.length c1_3) := (blk_cell Kgb1.out 3).trans rfl; have cgb1w17_4 : w17.cell? ⟨gb1, 4, none⟩ = some (.int .i64 a1_4) := (blk_cell Kgb1.out 4).trans rfl; have cgb1w17_5 : w17.cell? ⟨gb1, 5, none⟩ = some (.int .i64 a1_5) := (blk_cell Kgb1.out 5).trans rfl; have cgb1w17_6 : w17.cell? ⟨gb1, 6, none⟩ = some (.int .i64 a1_6) := (blk_cell Kgb1.out 6).trans rfl; have cgb1w17_7 : w17.cell? ⟨gb1, 7, none⟩ = some (.int .i64 a1_7) := (blk_cell Kgb1.out 7).trans rfl; have cgb1w17_8 : w17.cell? ⟨gb1, 8, none⟩ = some (.bool a1_8) := (blk_cell Kgb1.out 8).trans rfl
  go_upto_region 11 with (first
    | (go_at_call 41; (with_reducible refine (laws_toLayer.calls k a1_0 a1_1 a1_2 A1_3 c1_3 l1_3 a1_4 a1_5 a1_6 a1_7 a1_8 x1_0 x1_1 x1_2 x1_3 x1_4 x1_5 x1_6 x1_7 x1_8 w17 (Kd.C_below HR1.out HB.out) HC1.out HT1.out).mono ?_); rintro e w18 ⟨v_, rfl, hr, hb⟩; obtain ⟨Ax1, cx1, ev_⟩ := Kd.R_slice hr; subst ev_; have Rx1 := Aside0.mk (Kd.R_lower (Kd.R_mono (Kd.R_bound hr) (fun k_ hk_ => (⟨hk_.2.1, hk_.2.2.1⟩ : w17.heap.size ≤ k_ ∧ k_ < w18.heap.size))) HB.out.size); replace HB := Aside0.mk (below_then HB.out HB.out.size hb); replace Kgb0 := Aside0.mk (blk_below Kgb0.out hb); replace Kgb1 := Aside0.mk (blk_below Kgb1.out hb); replace Kgw := Aside0.mk (blk_below Kgw.out hb); replace Kgx0 := Aside0.mk (blk_below Kgx0.out hb); replace Rw := Aside0.mk (Kd.R_below Rw.out hb); replace Rx0 := Aside0.mk (Kd.R_below Rx0.out hb); have Zw18 := Aside0.mk hb.size; clear hr hb))
  try clear cgb1w17_0 cgb1w17_1 cgb1w17_2 cgb1w17_3 cgb1w17_4 cgb1w17_5 cgb1w17_6 cgb1w17_7 cgb1w17_8
  obtain ⟨w19, hw19⟩ : ∃ W, W = w18.alloc (.cells #[.int .i64 x1_0, .int .i64 x1_1, .int .i64 x1_2, .slice Ax1 x1_3.length cx1, .int .i64 x1_4, .int .i64 x1_5, .int .i64 x1_6, .int .i64 x1_7, .bool x1_8] 55) := ⟨_, rfl⟩
  obtain ⟨gx1, hgx1⟩ : ∃ g, g = w18.heap.size := ⟨_, rfl⟩
  rw [← hw19, ← hgx1]
  have Kgx1 := Aside0.mk (show w19.heap[gx1]? = some (.cells #[.int .i64 x1_0, .int .i64 x1_1, .int .i64 x1_2, .slice Ax1 x1_3.length cx1, .int .i64 x1_4, .int .i64 x1_5, .int .i64 x1_6, .int .i64 x1_7, .bool x1_8] 55 (0, 0)) from by rw [hw19, hgx1]; exact blk_new _ _)
  replace HB := Aside0.mk (show Below w.heap.size w w19 from by rw [hw19]; exact below_alloc HB.out _)
  replace Kgb0 := Aside0.mk (show w19.heap[gb0]? = some (.cells #[.int .i64 a0_0, .int .i64 a0_1, .int .i64 a0_2, .slice A0_3 l0_3.length c0_3] 24 (0, 0)) from by rw [hw19]; exact blk_alloc Kgb0.out _)
  replace Kgb1 := Aside0.mk (show w19.heap[gb1]? = some (.cells #[.int .i64 a1_0, .int .i64 a1_1, .int .i64 a1_2, .slice A1_3 l1_3.length c1_3, .int .i64 a1_4, .int .i64 a1_5, .int .i64 a1_6, .int .i64 a1_7, .bool a1_8] 51 (0, 0)) from by rw [hw19]; exact blk_alloc Kgb1.out _)
  replace Kgw := Aside0.mk (show w19.heap[gw]? = some (.cells #[.int .i64 v0, .int .i64 v1, .int .i64 v2, .slice Aw v3.length cw] 27 (0, 0)) from by rw [hw19]; exact blk_alloc Kgw.out _)
  replace Kgx0 := Aside0.mk (show w19.heap[gx0]? = some (.cells #[.int .i64 x0_0, .int .i64 x0_1, .int .i64 x0_2, .slice Ax0 x0_3.length cx0] 27 (0, 0)) from by rw [hw19]; exact blk_alloc Kgx0.out _)
  replace Rw := Aside0.mk (show Kd.R (Kd.int .i64) 3 w19 w.heap.size (fun k_ => wz1.heap.size ≤ k_ ∧ k_ < w15.heap.size) (.slice Aw v3.length cw) v3 from by rw [hw19]; exact Kd.R_alloc Rw.out _)
  replace Rx0 := Aside0.mk (show Kd.R (Kd.int .i64) 3 w19 w.heap.size (fun k_ => w15.heap.size ≤ k_ ∧ k_ < w16.heap.size) (.slice Ax0 x0_3.length cx0) x0_3 from by rw [hw19]; exact Kd.R_alloc Rx0.out _)
  replace Rx1 := Aside0.mk (show Kd.R (Kd.int .i64) 3 w19 w.heap.size (fun k_ => w17.heap.size ≤ k_ ∧ k_ < w18.heap.size) (.slice Ax1 x1_3.length cx1) x1_3 from by rw [hw19]; exact Kd.R_alloc Rx1.out _)
  have Zw19 := Aside0.mk (show w18.heap.size < w19.heap.size from by rw [hw19]; simp [World.size_alloc])
  have Zgx1 := Aside0.mk (show w18.heap.size ≤ gx1 from Nat.le_of_eq hgx1.symm)
  have ZLgx1 := Aside0.mk (blk_lt Kgx1.out)
  clear hw19 hgx1
  have cgx0w19_0 : w19.cell? ⟨gx0, 0, none⟩ = some (.int .i64 x0_0) := (blk_cell Kgx0.out 0).trans rfl; have cgx0w19_1 : w19.cell? ⟨gx0, 1, none⟩ = some (.int .i64 x0_1) := (blk_cell Kgx0.out 1).trans rfl; have cgx0w19_2 : w19.cell? ⟨gx0, 2, none⟩ = some (.int .i64 x0_2) := (blk_cell Kgx0.out 2).trans rfl; have cgx0w19_3 : w19.cell? ⟨gx0, 3, none⟩ = some (.slice Ax0 x0_3.length cx0) := (blk_cell Kgx0.out 3).trans rfl
  have cgx1w19_0 : w19.cell? ⟨gx1, 0, none⟩ = some (.int .i64 x1_0) := (blk_cell Kgx1.out 0).trans rfl; have cgx1w19_1 : w19.cell? ⟨gx1, 1, none⟩ = some (.int .i64 x1_1) := (blk_cell Kgx1.out 1).trans rfl; have cgx1w19_2 : w19.cell? ⟨gx1, 2, none⟩ = some (.int .i64 x1_2) := (blk_cell Kgx1.out 2).trans rfl; have cgx1w19_3 : w19.cell? ⟨gx1, 3, none⟩ = some (.slice Ax1 x1_3.length cx1) := (blk_cell Kgx1.out 3).trans rfl; have cgx1w19_4 : w19.cell? ⟨gx1, 4, none⟩ = some (.int .i64 x1_4) := (blk_cell Kgx1.out 4).trans rfl; have cgx1w19_5 : w19.cell? ⟨gx1, 5, none⟩ = some (.int .i64 x1_5) := (blk_cell Kgx1.out 5).trans rfl; have cgx1w19_6 : w19.cell? ⟨gx1, 6, none⟩ = some (.int .i64 x1_6) := (blk_cell Kgx1.out 6).trans rfl; have cgx1w19_7 : w19.cell? ⟨gx1, 7, none⟩ = some (.int .i64 x1_7) := (blk_cell Kgx1.out 7).trans rfl; have cgx1w19_8 : w19.cell? ⟨gx1, 8, none⟩ = some (.bool x1_8) := (blk_cell Kgx1.out 8).trans rfl
  go_upto_region 12 with (first
    | (go_at_call 49; (with_reducible refine (impl_CoverImage.calls x0_0 x0_1 x0_2 Ax0 cx0 x0_3 x1_0 x1_1 x1_2 Ax1 cx1 x1_3 x1_4 x1_5 x1_6 x1_7 x1_8 v0 v1 v2 v3 vok w19 (Kd.R_reads' Rx0.out).2.2 (Kd.R_reads' Rx0.out).2.1 (Kd.R_reads' Rx1.out).2.2 (Kd.R_reads' Rx1.out).2.1 HIM.out).mono ?_); rintro e w20 ⟨v_, rfl, hr, hb⟩; obtain ⟨Ag, cg, ev_⟩ := Kd.R_slice hr; subst ev_; have Rg := Aside0.mk (Kd.R_lower (Kd.R_mono (Kd.R_bound hr) (fun k_ hk_ => (⟨hk_.2.1, hk_.2.2.1⟩ : w19.heap.size ≤ k_ ∧ k_ < w20.heap.size))) HB.out.size); replace HB := Aside0.mk (below_then HB.out HB.out.size hb); replace Kgb0 := Aside0.mk (blk_below Kgb0.out hb); replace Kgb1 := Aside0.mk (blk_below Kgb1.out hb); replace Kgw := Aside0.mk (blk_below Kgw.out hb); replace Kgx0 := Aside0.mk (blk_below Kgx0.out hb); replace Kgx1 := Aside0.mk (blk_below Kgx1.out hb); replace Rw := Aside0.mk (Kd.R_below Rw.out hb); replace Rx0 := Aside0.mk (Kd.R_below Rx0.out hb); replace Rx1 := Aside0.mk (Kd.R_below Rx1.out hb); have Zw20 := Aside0.mk hb.size; clear hr hb))
  try clear cgx0w19_0 cgx0w19_1 cgx0w19_2 cgx0w19_3 cgx1w19_0 cgx1w19_1 cgx1w19_2 cgx1w19_3 cgx1w19_4 cgx1w19_5 cgx1w19_6 cgx1w19_7 cgx1w19_8
  obtain ⟨w21, hw21⟩ : ∃ W, W = w20.alloc (.cells #[.int .i64 v0, .int .i64 v1, .int .i64 v2, .slice Ag v3.length cg] 27) := ⟨_, rfl⟩
  obtain ⟨gg, hgg⟩ : ∃ g, g = w20.heap.size := ⟨_, rfl⟩
  rw [← hw21, ← hgg]
  have Kgg := Aside0.mk (show w21.heap[gg]? = some (.cells #[.int .i64 v0, .int .i64 v1, .int .i64 v2, .slice Ag v3.length cg] 27 (0, 0)) from by rw [hw21, hgg]; exact blk_new _ _)
  replace HB := Aside0.mk (show Below w.heap.size w w21 from by rw [hw21]; exact below_alloc HB.out _)
  replace Kgb0 := Aside0.mk (show w21.heap[gb0]? = some (.cells #[.int .i64 a0_0, .int .i64 a0_1, .int .i64 a0_2, .slice A0_3 l0_3.length c0_3] 24 (0, 0)) from by rw [hw21]; exact blk_alloc Kgb0.out _)
  replace Kgb1 := Aside0.mk (show w21.heap[gb1]? = some (.cells #[.int .i64 a1_0, .int .i64 a1_1, .int .i64 a1_2, .slice A1_3 l1_3.length c1_3, .int .i64 a1_4, .int .i64 a1_5, .int .i64 a1_6, .int .i64 a1_7, .bool a1_8] 51 (0, 0)) from by rw [hw21]; exact blk_alloc Kgb1.out _)
  replace Kgw := Aside0.mk (show w21.heap[gw]? = some (.cells #[.int .i64 v0, .int .i64 v1, .int .i64 v2, .slice Aw v3.length cw] 27 (0, 0)) from by rw [hw21]; exact blk_alloc Kgw.out _)
  replace Kgx0 := Aside0.mk (show w21.heap[gx0]? = some (.cells #[.int .i64 x0_0, .int .i64 x0_1, .int .i64 x0_2, .slice Ax0 x0_3.length cx0] 27 (0, 0)) from by rw [hw21]; exact blk_alloc Kgx0.out _)
  replace Kgx1 := Aside0.mk (show w21.heap[gx1]? = some (.cells #[.int .i64 x1_0, .int .i64 x1_1, .int .i64 x1_2, .slice Ax1 x1_3.length cx1, .int .i64 x1_4, .int .i64 x1_5, .int .i64 x1_6, .int .i64 x1_7, .bool x1_8] 55 (0, 0)) from by rw [hw21]; exact blk_alloc Kgx1.out _)
  replace Rw := Aside0.mk (show Kd.R (Kd.int .i64) 3 w21 w.heap.size (fun k_ => wz1.heap.size ≤ k_ ∧ k_ < w15.heap.size) (.slice Aw v3.length cw) v3 from by rw [hw21]; exact Kd.R_alloc Rw.out _)
  replace Rx0 := Aside0.mk (show Kd.R (Kd.int .i64) 3 w21 w.heap.size (fun k_ => w15.heap.size ≤ k_ ∧ k_ < w16.heap.size) (.slice Ax0 x0_3.length cx0) x0_3 from by rw [hw21]; exact Kd.R_alloc Rx0.out _)
  replace Rx1 := Aside0.mk (show Kd.R (Kd.int .i64) 3 w21 w.heap.size (fun k_ => w17.heap.size ≤ k_ ∧ k_ < w18.heap.size) (.slice Ax1 x1_3.length cx1) x1_3 from by rw [hw21]; exact Kd.R_alloc Rx1.out _)
  replace Rg := Aside0.mk (show Kd.R (Kd.int .i64) 3 w21 w.heap.size (fun k_ => w19.heap.size ≤ k_ ∧ k_ < w20.heap.size) (.slice Ag v3.length cg) v3 from by rw [hw21]; exact Kd.R_alloc Rg.out _)
  have Zw21 := Aside0.mk (show w20.heap.size < w21.heap.size from by rw [hw21]; simp [World.size_alloc])
  have Zgg := Aside0.mk (show w20.heap.size ≤ gg from Nat.le_of_eq hgg.symm)
  have ZLgg := Aside0.mk (blk_lt Kgg.out)
  clear hw21 hgg
  have hbn : (vok != vok) = false := by simp
  have cggw21_0 : w21.cell? ⟨gg, 0, none⟩ = some (.int .i64 v0) := (blk_cell Kgg.out 0).trans rfl; have cggw21_1 : w21.cell? ⟨gg, 1, none⟩ = some (.int .i64 v1) := (blk_cell Kgg.out 1).trans rfl; have cggw21_2 : w21.cell? ⟨gg, 2, none⟩ = some (.int .i64 v2) := (blk_cell Kgg.out 2).trans rfl; have cggw21_3 : w21.cell? ⟨gg, 3, none⟩ = some (.slice Ag v3.length cg) := (blk_cell Kgg.out 3).trans rfl
  have cgww21_0 : w21.cell? ⟨gw, 0, none⟩ = some (.int .i64 v0) := (blk_cell Kgw.out 0).trans rfl; have cgww21_1 : w21.cell? ⟨gw, 1, none⟩ = some (.int .i64 v1) := (blk_cell Kgw.out 1).trans rfl; have cgww21_2 : w21.cell? ⟨gw, 2, none⟩ = some (.int .i64 v2) := (blk_cell Kgw.out 2).trans rfl; have cgww21_3 : w21.cell? ⟨gw, 3, none⟩ = some (.slice Aw v3.length cw) := (blk_cell Kgw.out 3).trans rfl
  go_upto_region 14 with (first
    | (go_at_call 24; (with_reducible refine (laws_eqImage.calls k v0 v1 v2 Ag cg v3 v0 v1 v2 Aw cw v3 true w21 (Kd.R_reads' Rg.out).2.2 (Kd.R_reads' Rg.out).2.1 (Kd.R_reads' Rw.out).2.2 (Kd.R_reads' Rw.out).2.1 HEV.out rfl).mono ?_); rintro e w22 ⟨rfl, hb⟩; replace HB := Aside0.mk (below_then HB.out HB.out.size hb); replace Kgb0 := Aside0.mk (blk_below Kgb0.out hb); replace Kgb1 := Aside0.mk (blk_below Kgb1.out hb); replace Kgw := Aside0.mk (blk_below Kgw.out hb); replace Kgx0 := Aside0.mk (blk_below Kgx0.out hb); replace Kgx1 := Aside0.mk (blk_below Kgx1.out hb); replace Kgg := Aside0.mk (blk_below Kgg.out hb); replace Rw := Aside0.mk (Kd.R_below Rw.out hb); replace Rx0 := Aside0.mk (Kd.R_below Rx0.out hb); replace Rx1 := Aside0.mk (Kd.R_below Rx1.out hb); replace Rg := Aside0.mk (Kd.R_below Rg.out hb); have Zw22 := Aside0.mk hb.size; clear hb))
  try clear cggw21_0 cggw21_1 cggw21_2 cggw21_3 cgww21_0 cgww21_1 cgww21_2 cgww21_3
  replace HB := Aside0.mk (below_drew HB.out)
  replace Kgb0 := Aside0.mk (blk_below Kgb0.out (below_drew (Below.refl _ _)))
  replace Kgb1 := Aside0.mk (blk_below Kgb1.out (below_drew (Below.refl _ _)))
  replace Kgw := Aside0.mk (blk_below Kgw.out (below_drew (Below.refl _ _)))
  replace Kgx0 := Aside0.mk (blk_below Kgx0.out (below_drew (Below.refl _ _)))
  replace Kgx1 := Aside0.mk (blk_below Kgx1.out (below_drew (Below.refl _ _)))
  replace Kgg := Aside0.mk (blk_below Kgg.out (below_drew (Below.refl _ _)))
  replace Rw := Aside0.mk (Kd.R_drew Rw.out)
  replace Rx0 := Aside0.mk (Kd.R_drew Rx0.out)
  replace Rx1 := Aside0.mk (Kd.R_drew Rx1.out)
  replace Rg := Aside0.mk (Kd.R_drew Rg.out)
  refine start_ (n := 5) (S := fun w' => w'.cell? ⟨gx0, 0, none⟩ = some (.int .i64 x0_0) ∧ w'.cell? ⟨gx0, 1, none⟩ = some (.int .i64 x0_1) ∧ w'.cell? ⟨gx0, 2, none⟩ = some (.int .i64 x0_2) ∧ w'.cell? ⟨gx0, 3, none⟩ = some (.slice Ax0 x0_3.length cx0) ∧ w'.cell? ⟨gb0, 0, none⟩ = some (.int .i64 a0_0) ∧ w'.cell? ⟨gb0, 1, none⟩ = some (.int .i64 a0_1) ∧ w'.cell? ⟨gb0, 2, none⟩ = some (.int .i64 a0_2) ∧ w'.cell? ⟨gb0, 3, none⟩ = some (.slice A0_3 l0_3.length c0_3)) (ds := []) #[false, false, false, false, false] (by kernel_rfl) rfl rfl ⟨((blk_cell Kgx0.out 0).trans rfl), ((blk_cell Kgx0.out 1).trans rfl), ((blk_cell Kgx0.out 2).trans rfl), ((blk_cell Kgx0.out 3).trans rfl), ((blk_cell Kgb0.out 0).trans rfl), ((blk_cell Kgb0.out 1).trans rfl), ((blk_cell Kgb0.out 2).trans rfl), ((blk_cell Kgb0.out 3).trans rfl)⟩ (fun hHeld => ?_)
  refine take_ (i := 0) (N := some 54) (v := ?_) (a' := ?_) #[true, false, false, false, false] rfl rfl (by kernel_rfl) (fun _ _ _ h => h) (Or.inl ⟨by rfl, ?_⟩) hHeld ?_ ?_
  rotate_left
  · rintro w' ⟨s0, s1, s2, s3, s4, s5, s6, s7⟩
    go_simp
    with_reducible rfl
  rotate_left
  · simp only [Act.put, List.setIfInBounds_toArray, List.set_cons_zero, List.set_cons_succ, i64_w, i32_w]
    rfl
  refine take_ (i := 1) (N := some 55) (v := ?_) (a' := ?_) #[true, true, false, false, false] rfl rfl (by kernel_rfl) (fun _ _ _ h => h) (Or.inl ⟨by rfl, ?_⟩) hHeld ?_ ?_
  rotate_left
  · rintro w' ⟨s0, s1, s2, s3, s4, s5, s6, s7⟩
    go_simp
    with_reducible rfl
  rotate_left
  · simp only [Act.put, List.setIfInBounds_toArray, List.set_cons_zero, List.set_cons_succ, i64_w, i32_w]
    rfl
  refine one_ (i := 2) (N := some 56) #[true, true, true, false, false] rfl rfl (by kernel_rfl) (by decide) (fun K hK => ?_)
  refine goes_ Try.func22 (by kernel_rfl) rfl #[.agg #[.int .i64 a0_0, .int .i64 a0_1, .int .i64 a0_2, .slice A0_3 l0_3.length c0_3]] (by rfl) rfl rfl (by simp only [List.map_toArray, List.map_cons, List.map_nil]; rfl) ?_
  with_reducible refine (laws_toImage.calls k a0_0 a0_1 a0_2 A0_3 c0_3 l0_3 x0_0 x0_1 x0_2 x0_3 _ (Kd.C_below HR0.out HB.out) HC0.out HT0.out).mono ?_
  rintro e w23 ⟨vt_, rfl, hr_, hb_⟩
  refine ⟨_, rfl, ?_⟩
  obtain ⟨At_, ct_, rfl, hl_, hC_⟩ := Kd.R_reads hr_
  replace HB := Aside0.mk (below_then HB.out HB.out.size hb_)
  replace Kgb0 := Aside0.mk (blk_below Kgb0.out hb_)
  replace Kgb1 := Aside0.mk (blk_below Kgb1.out hb_)
  replace Kgw := Aside0.mk (blk_below Kgw.out hb_)
  replace Kgx0 := Aside0.mk (blk_below Kgx0.out hb_)
  replace Kgx1 := Aside0.mk (blk_below Kgx1.out hb_)
  replace Kgg := Aside0.mk (blk_below Kgg.out hb_)
  replace Rw := Aside0.mk (Kd.R_below Rw.out hb_)
  replace Rx0 := Aside0.mk (Kd.R_below Rx0.out hb_)
  replace Rx1 := Aside0.mk (Kd.R_below Rx1.out hb_)
  replace Rg := Aside0.mk (Kd.R_below Rg.out hb_)
  have Zw23 := Aside0.mk hb_.size
  have HT_ := Aside0.mk hC_
  have HL_ := Aside0.mk hl_
  clear hr_ hb_ hl_ hC_
  refine hK.out _ _ ⟨((blk_cell Kgx0.out 0).trans rfl), ((blk_cell Kgx0.out 1).trans rfl), ((blk_cell Kgx0.out 2).trans rfl), ((blk_cell Kgx0.out 3).trans rfl), ((blk_cell Kgb0.out 0).trans rfl), ((blk_cell Kgb0.out 1).trans rfl), ((blk_cell Kgb0.out 2).trans rfl), ((blk_cell Kgb0.out 3).trans rfl)⟩ (fun hHeld => ?_)
  clear hK K
  refine norm_ (a' := ?_) ?_ ?_
  rotate_left
  · show Act.put _ (some 56) _ = _
    simp only [Act.put, List.setIfInBounds_toArray, List.set_cons_zero, List.set_cons_succ, i64_w, i32_w]
    rfl
  refine one_ (i := 3) (N := some 57) #[true, true, true, true, false] rfl rfl (by kernel_rfl) (by decide) (fun K hK => ?_)
  refine goes_ Try.func24 (by kernel_rfl) rfl #[.agg #[.int .i64 x0_0, .int .i64 x0_1, .int .i64 x0_2, .slice Ax0 x0_3.length cx0], .agg #[.int .i64 x0_0, .int .i64 x0_1, .int .i64 x0_2, .slice At_ x0_3.length ct_]] (by rfl) rfl rfl (by simp only [List.map_toArray, List.map_cons, List.map_nil]; rfl) ?_
  with_reducible refine (laws_eqImage.calls k x0_0 x0_1 x0_2 Ax0 cx0 x0_3 x0_0 x0_1 x0_2 At_ ct_ x0_3 true _ (Kd.R_reads' Rx0.out).2.2 (Kd.R_reads' Rx0.out).2.1 HT_.out HL_.out HE0.out rfl).mono ?_
  rintro e w24 ⟨rfl, hb_⟩
  refine ⟨_, rfl, ?_⟩
  replace HB := Aside0.mk (below_then HB.out HB.out.size hb_)
  replace Kgb0 := Aside0.mk (blk_below Kgb0.out hb_)
  replace Kgb1 := Aside0.mk (blk_below Kgb1.out hb_)
  replace Kgw := Aside0.mk (blk_below Kgw.out hb_)
  replace Kgx0 := Aside0.mk (blk_below Kgx0.out hb_)
  replace Kgx1 := Aside0.mk (blk_below Kgx1.out hb_)
  replace Kgg := Aside0.mk (blk_below Kgg.out hb_)
  replace Rw := Aside0.mk (Kd.R_below Rw.out hb_)
  replace Rx0 := Aside0.mk (Kd.R_below Rx0.out hb_)
  replace Rx1 := Aside0.mk (Kd.R_below Rx1.out hb_)
  replace Rg := Aside0.mk (Kd.R_below Rg.out hb_)
  have Zw24 := Aside0.mk hb_.size
  clear hb_ HT_ HL_
  refine hK.out _ _ ⟨((blk_cell Kgx0.out 0).trans rfl), ((blk_cell Kgx0.out 1).trans rfl), ((blk_cell Kgx0.out 2).trans rfl), ((blk_cell Kgx0.out 3).trans rfl), ((blk_cell Kgb0.out 0).trans rfl), ((blk_cell Kgb0.out 1).trans rfl), ((blk_cell Kgb0.out 2).trans rfl), ((blk_cell Kgb0.out 3).trans rfl)⟩ (fun hHeld => ?_)
  clear hK K
  refine norm_ (a' := ?_) ?_ ?_
  rotate_left
  · show Act.put _ (some 57) _ = _
    simp only [Act.put, List.setIfInBounds_toArray, List.set_cons_zero, List.set_cons_succ, i64_w, i32_w]
    rfl
  refine pure_ (i := 4) (N := some 58) (v := ?_) (a' := ?_) #[true, true, true, true, true] rfl rfl (by kernel_rfl) (fun _ _ _ h => h) (Or.inl ⟨by rfl, ?_⟩) ?_ ?_
  rotate_left
  · intro w'
    go_simp
    with_reducible rfl
  rotate_left
  · simp only [Act.put, List.setIfInBounds_toArray, List.set_cons_zero, List.set_cons_succ, i64_w, i32_w]
    rfl
  refine done_ (by kernel_rfl) ?_
  clear hHeld
  go_upto_region 16 with (first
    | (fail))
  replace HB := Aside0.mk (below_drew HB.out)
  replace Kgb0 := Aside0.mk (blk_below Kgb0.out (below_drew (Below.refl _ _)))
  replace Kgb1 := Aside0.mk (blk_below Kgb1.out (below_drew (Below.refl _ _)))
  replace Kgw := Aside0.mk (blk_below Kgw.out (below_drew (Below.refl _ _)))
  replace Kgx0 := Aside0.mk (blk_below Kgx0.out (below_drew (Below.refl _ _)))
  replace Kgx1 := Aside0.mk (blk_below Kgx1.out (below_drew (Below.refl _ _)))
  replace Kgg := Aside0.mk (blk_below Kgg.out (below_drew (Below.refl _ _)))
  replace Rw := Aside0.mk (Kd.R_drew Rw.out)
  replace Rx0 := Aside0.mk (Kd.R_drew Rx0.out)
  replace Rx1 := Aside0.mk (Kd.R_drew Rx1.out)
  replace Rg := Aside0.mk (Kd.R_drew Rg.out)
  refine start_ (n := 5) (S := fun w' => w'.cell? ⟨gx1, 0, none⟩ = some (.int .i64 x1_0) ∧ w'.cell? ⟨gx1, 1, none⟩ = some (.int .i64 x1_1) ∧ w'.cell? ⟨gx1, 2, none⟩ = some (.int .i64 x1_2) ∧ w'.cell? ⟨gx1, 3, none⟩ = some (.slice Ax1 x1_3.length cx1) ∧ w'.cell? ⟨gx1, 4, none⟩ = some (.int .i64 x1_4) ∧ w'.cell? ⟨gx1, 5, none⟩ = some (.int .i64 x1_5) ∧ w'.cell? ⟨gx1, 6, none⟩ = some (.int .i64 x1_6) ∧ w'.cell? ⟨gx1, 7, none⟩ = some (.int .i64 x1_7) ∧ w'.cell? ⟨gx1, 8, none⟩ = some (.bool x1_8) ∧ w'.cell? ⟨gb1, 0, none⟩ = some (.int .i64 a1_0) ∧ w'.cell? ⟨gb1, 1, none⟩ = some (.int .i64 a1_1) ∧ w'.cell? ⟨gb1, 2, none⟩ = some (.int .i64 a1_2) ∧ w'.cell? ⟨gb1, 3, none⟩ = some (.slice A1_3 l1_3.length c1_3) ∧ w'.cell? ⟨gb1, 4, none⟩ = some (.int .i64 a1_4) ∧ w'.cell? ⟨gb1, 5, none⟩ = some (.int .i64 a1_5) ∧ w'.cell? ⟨gb1, 6, none⟩ = some (.int .i64 a1_6) ∧ w'.cell? ⟨gb1, 7, none⟩ = some (.int .i64 a1_7) ∧ w'.cell? ⟨gb1, 8, none⟩ = some (.bool a1_8)) (ds := []) #[false, false, false, false, false] (by kernel_rfl) rfl rfl ⟨((blk_cell Kgx1.out 0).trans rfl), ((blk_cell Kgx1.out 1).trans rfl), ((blk_cell Kgx1.out 2).trans rfl), ((blk_cell Kgx1.out 3).trans rfl), ((blk_cell Kgx1.out 4).trans rfl), ((blk_cell Kgx1.out 5).trans rfl), ((blk_cell Kgx1.out 6).trans rfl), ((blk_cell Kgx1.out 7).trans rfl), ((blk_cell Kgx1.out 8).trans rfl), ((blk_cell Kgb1.out 0).trans rfl), ((blk_cell Kgb1.out 1).trans rfl), ((blk_cell Kgb1.out 2).trans rfl), ((blk_cell Kgb1.out 3).trans rfl), ((blk_cell Kgb1.out 4).trans rfl), ((blk_cell Kgb1.out 5).trans rfl), ((blk_cell Kgb1.out 6).trans rfl), ((blk_cell Kgb1.out 7).trans rfl), ((blk_cell Kgb1.out 8).trans rfl)⟩ (fun hHeld => ?_)
  refine take_ (i := 0) (N := some 59) (v := ?_) (a' := ?_) #[true, false, false, false, false] rfl rfl (by kernel_rfl) (fun _ _ _ h => h) (Or.inl ⟨by rfl, ?_⟩) hHeld ?_ ?_
  rotate_left
  · rintro w' ⟨s0, s1, s2, s3, s4, s5, s6, s7, s8, s9, s10, s11, s12, s13, s14, s15, s16, s17⟩
    go_simp
    with_reducible rfl
  rotate_left
  · simp only [Act.put, List.setIfInBounds_toArray, List.set_cons_zero, List.set_cons_succ, i64_w, i32_w]
    rfl
  refine take_ (i := 1) (N := some 60) (v := ?_) (a' := ?_) #[true, true, false, false, false] rfl rfl (by kernel_rfl) (fun _ _ _ h => h) (Or.inl ⟨by rfl, ?_⟩) hHeld ?_ ?_
  rotate_left
  · rintro w' ⟨s0, s1, s2, s3, s4, s5, s6, s7, s8, s9, s10, s11, s12, s13, s14, s15, s16, s17⟩
    go_simp
    with_reducible rfl
  rotate_left
  · simp only [Act.put, List.setIfInBounds_toArray, List.set_cons_zero, List.set_cons_succ, i64_w, i32_w]
    rfl
  refine one_ (i := 2) (N := some 61) #[true, true, true, false, false] rfl rfl (by kernel_rfl) (by decide) (fun K hK => ?_)
  refine goes_ Try.func41 (by kernel_rfl) rfl #[.agg #[.int .i64 a1_0, .int .i64 a1_1, .int .i64 a1_2, .slice A1_3 l1_3.length c1_3, .int .i64 a1_4, .int .i64 a1_5, .int .i64 a1_6, .int .i64 a1_7, .bool a1_8]] (by rfl) rfl rfl (by simp only [List.map_toArray, List.map_cons, List.map_nil]; rfl) ?_
  with_reducible refine (laws_toLayer.calls k a1_0 a1_1 a1_2 A1_3 c1_3 l1_3 a1_4 a1_5 a1_6 a1_7 a1_8 x1_0 x1_1 x1_2 x1_3 x1_4 x1_5 x1_6 x1_7 x1_8 _ (Kd.C_below HR1.out HB.out) HC1.out HT1.out).mono ?_
  rintro e w25 ⟨vt_, rfl, hr_, hb_⟩
  refine ⟨_, rfl, ?_⟩
  obtain ⟨At_, ct_, rfl, hl_, hC_⟩ := Kd.R_reads hr_
  replace HB := Aside0.mk (below_then HB.out HB.out.size hb_)
  replace Kgb0 := Aside0.mk (blk_below Kgb0.out hb_)
  replace Kgb1 := Aside0.mk (blk_below Kgb1.out hb_)
  replace Kgw := Aside0.mk (blk_below Kgw.out hb_)
  replace Kgx0 := Aside0.mk (blk_below Kgx0.out hb_)
  replace Kgx1 := Aside0.mk (blk_below Kgx1.out hb_)
  replace Kgg := Aside0.mk (blk_below Kgg.out hb_)
  replace Rw := Aside0.mk (Kd.R_below Rw.out hb_)
  replace Rx0 := Aside0.mk (Kd.R_below Rx0.out hb_)
  replace Rx1 := Aside0.mk (Kd.R_below Rx1.out hb_)
  replace Rg := Aside0.mk (Kd.R_below Rg.out hb_)
  have Zw25 := Aside0.mk hb_.size
  have HT_ := Aside0.mk hC_
  have HL_ := Aside0.mk hl_
  clear hr_ hb_ hl_ hC_
  refine hK.out _ _ ⟨((blk_cell Kgx1.out 0).trans rfl), ((blk_cell Kgx1.out 1).trans rfl), ((blk_cell Kgx1.out 2).trans rfl), ((blk_cell Kgx1.out 3).trans rfl), ((blk_cell Kgx1.out 4).trans rfl), ((blk_cell Kgx1.out 5).trans rfl), ((blk_cell Kgx1.out 6).trans rfl), ((blk_cell Kgx1.out 7).trans rfl), ((blk_cell Kgx1.out 8).trans rfl), ((blk_cell Kgb1.out 0).trans rfl), ((blk_cell Kgb1.out 1).trans rfl), ((blk_cell Kgb1.out 2).trans rfl), ((blk_cell Kgb1.out 3).trans rfl), ((blk_cell Kgb1.out 4).trans rfl), ((blk_cell Kgb1.out 5).trans rfl), ((blk_cell Kgb1.out 6).trans rfl), ((blk_cell Kgb1.out 7).trans rfl), ((blk_cell Kgb1.out 8).trans rfl)⟩ (fun hHeld => ?_)
  clear hK K
  refine norm_ (a' := ?_) ?_ ?_
  rotate_left
  · show Act.put _ (some 61) _ = _
    simp only [Act.put, List.setIfInBounds_toArray, List.set_cons_zero, List.set_cons_succ, i64_w, i32_w]
    rfl
  refine one_ (i := 3) (N := some 62) #[true, true, true, true, false] rfl rfl (by kernel_rfl) (by decide) (fun K hK => ?_)
  refine goes_ Try.func44 (by kernel_rfl) rfl #[.agg #[.int .i64 x1_0, .int .i64 x1_1, .int .i64 x1_2, .slice Ax1 x1_3.length cx1, .int .i64 x1_4, .int .i64 x1_5, .int .i64 x1_6, .int .i64 x1_7, .bool x1_8], .agg #[.int .i64 x1_0, .int .i64 x1_1, .int .i64 x1_2, .slice At_ x1_3.length ct_, .int .i64 x1_4, .int .i64 x1_5, .int .i64 x1_6, .int .i64 x1_7, .bool x1_8]] (by rfl) rfl rfl (by simp only [List.map_toArray, List.map_cons, List.map_nil]; rfl) ?_
  with_reducible refine (laws_eqLayer.calls k x1_0 x1_1 x1_2 Ax1 cx1 x1_3 x1_4 x1_5 x1_6 x1_7 x1_8 x1_0 x1_1 x1_2 At_ ct_ x1_3 x1_4 x1_5 x1_6 x1_7 x1_8 true _ (Kd.R_reads' Rx1.out).2.2 (Kd.R_reads' Rx1.out).2.1 HT_.out HL_.out HE1.out rfl).mono ?_
  rintro e w26 ⟨rfl, hb_⟩
  refine ⟨_, rfl, ?_⟩
  replace HB := Aside0.mk (below_then HB.out HB.out.size hb_)
  replace Kgb0 := Aside0.mk (blk_below Kgb0.out hb_)
  replace Kgb1 := Aside0.mk (blk_below Kgb1.out hb_)
  replace Kgw := Aside0.mk (blk_below Kgw.out hb_)
  replace Kgx0 := Aside0.mk (blk_below Kgx0.out hb_)
  replace Kgx1 := Aside0.mk (blk_below Kgx1.out hb_)
  replace Kgg := Aside0.mk (blk_below Kgg.out hb_)
  replace Rw := Aside0.mk (Kd.R_below Rw.out hb_)
  replace Rx0 := Aside0.mk (Kd.R_below Rx0.out hb_)
  replace Rx1 := Aside0.mk (Kd.R_below Rx1.out hb_)
  replace Rg := Aside0.mk (Kd.R_below Rg.out hb_)
  have Zw26 := Aside0.mk hb_.size
  clear hb_ HT_ HL_
  refine hK.out _ _ ⟨((blk_cell Kgx1.out 0).trans rfl), ((blk_cell Kgx1.out 1).trans rfl), ((blk_cell Kgx1.out 2).trans rfl), ((blk_cell Kgx1.out 3).trans rfl), ((blk_cell Kgx1.out 4).trans rfl), ((blk_cell Kgx1.out 5).trans rfl), ((blk_cell Kgx1.out 6).trans rfl), ((blk_cell Kgx1.out 7).trans rfl), ((blk_cell Kgx1.out 8).trans rfl), ((blk_cell Kgb1.out 0).trans rfl), ((blk_cell Kgb1.out 1).trans rfl), ((blk_cell Kgb1.out 2).trans rfl), ((blk_cell Kgb1.out 3).trans rfl), ((blk_cell Kgb1.out 4).trans rfl), ((blk_cell Kgb1.out 5).trans rfl), ((blk_cell Kgb1.out 6).trans rfl), ((blk_cell Kgb1.out 7).trans rfl), ((blk_cell Kgb1.out 8).trans rfl)⟩ (fun hHeld => ?_)
  clear hK K
  refine norm_ (a' := ?_) ?_ ?_
  rotate_left
  · show Act.put _ (some 62) _ = _
    simp only [Act.put, List.setIfInBounds_toArray, List.set_cons_zero, List.set_cons_succ, i64_w, i32_w]
    rfl
  refine pure_ (i := 4) (N := some 63) (v := ?_) (a' := ?_) #[true, true, true, true, true] rfl rfl (by kernel_rfl) (fun _ _ _ h => h) (Or.inl ⟨by rfl, ?_⟩) ?_ ?_
  rotate_left
  · intro w'
    go_simp
    with_reducible rfl
  rotate_left
  · simp only [Act.put, List.setIfInBounds_toArray, List.set_cons_zero, List.set_cons_succ, i64_w, i32_w]
    rfl
  refine done_ (by kernel_rfl) ?_
  clear hHeld
  go_upto_region 18 with (first
    | (fail))
  have Zb0 := Aside0.mk QKgb0.out; have Zb1 := Aside0.mk QKgb1.out
  have z0_ := NZw.out; have z1_ := Zgw.out; have z2_ := ZLgw.out; have z3_ := Zw16.out; have z4_ := Zw17.out; have z5_ := Zgx0.out; have z6_ := ZLgx0.out; have z7_ := Zw18.out; have z8_ := Zw19.out; have z9_ := Zgx1.out; have z10_ := ZLgx1.out; have z11_ := Zw20.out; have z12_ := Zw21.out; have z13_ := Zgg.out; have z14_ := ZLgg.out; have z15_ := Zw22.out; have z16_ := Zw23.out; have z17_ := Zw24.out; have z18_ := Zw25.out; have z19_ := Zw26.out; have z20_ := Zb0.out; have z21_ := Zb1.out
  have cgx0w26_0 : w26.cell? ⟨gx0, 0, none⟩ = some (.int .i64 x0_0) := (blk_cell Kgx0.out 0).trans rfl; have cgx0w26_1 : w26.cell? ⟨gx0, 1, none⟩ = some (.int .i64 x0_1) := (blk_cell Kgx0.out 1).trans rfl; have cgx0w26_2 : w26.cell? ⟨gx0, 2, none⟩ = some (.int .i64 x0_2) := (blk_cell Kgx0.out 2).trans rfl; have cgx0w26_3 : w26.cell? ⟨gx0, 3, none⟩ = some (.slice Ax0 x0_3.length cx0) := (blk_cell Kgx0.out 3).trans rfl
  go_upto_region 20 with (first
    | (go_at_call 31; (with_reducible refine (laws_markImage.calls k x0_0 x0_1 x0_2 (fun k_ => w15.heap.size ≤ k_ ∧ k_ < w16.heap.size) (.slice Ax0 x0_3.length cx0) x0_3 1 k0 y0 w w26 HB.out Rx0.out HM0.out).mono ?_); rintro e w27 ⟨rfl, hr, hb, hK⟩; replace Kgb0 := Aside0.mk ((hK.2 gb0 (blk_lt Kgb0.out) (by have b_ := blk_lt Kgb0.out; rintro ⟨h1_, h2_⟩; omega)).trans Kgb0.out); replace Kgb1 := Aside0.mk ((hK.2 gb1 (blk_lt Kgb1.out) (by have b_ := blk_lt Kgb1.out; rintro ⟨h1_, h2_⟩; omega)).trans Kgb1.out); replace Kgw := Aside0.mk ((hK.2 gw (blk_lt Kgw.out) (by have b_ := blk_lt Kgw.out; rintro ⟨h1_, h2_⟩; omega)).trans Kgw.out); replace Kgx0 := Aside0.mk ((hK.2 gx0 (blk_lt Kgx0.out) (by have b_ := blk_lt Kgx0.out; rintro ⟨h1_, h2_⟩; omega)).trans Kgx0.out); replace Kgx1 := Aside0.mk ((hK.2 gx1 (blk_lt Kgx1.out) (by have b_ := blk_lt Kgx1.out; rintro ⟨h1_, h2_⟩; omega)).trans Kgx1.out); replace Kgg := Aside0.mk ((hK.2 gg (blk_lt Kgg.out) (by have b_ := blk_lt Kgg.out; rintro ⟨h1_, h2_⟩; omega)).trans Kgg.out); replace Rw := Aside0.mk (Kd.R_kept Rw.out hK (by rintro k_ ⟨h1_, h2_⟩ ⟨h3_, h4_⟩; omega)); replace Rx1 := Aside0.mk (Kd.R_kept Rx1.out hK (by rintro k_ ⟨h1_, h2_⟩ ⟨h3_, h4_⟩; omega)); replace Rg := Aside0.mk (Kd.R_kept Rg.out hK (by rintro k_ ⟨h1_, h2_⟩ ⟨h3_, h4_⟩; omega)); replace HB := Aside0.mk hb; replace Rx0 := Aside0.mk hr; have Zw27 := Aside0.mk hK.1; clear hr hb hK))
  try clear cgx0w26_0 cgx0w26_1 cgx0w26_2 cgx0w26_3
  clear z0_ z1_ z2_ z3_ z4_ z5_ z6_ z7_ z8_ z9_ z10_ z11_ z12_ z13_ z14_ z15_ z16_ z17_ z18_ z19_ z20_ z21_
  have z0_ := NZw.out; have z1_ := Zgw.out; have z2_ := ZLgw.out; have z3_ := Zw16.out; have z4_ := Zw17.out; have z5_ := Zgx0.out; have z6_ := ZLgx0.out; have z7_ := Zw18.out; have z8_ := Zw19.out; have z9_ := Zgx1.out; have z10_ := ZLgx1.out; have z11_ := Zw20.out; have z12_ := Zw21.out; have z13_ := Zgg.out; have z14_ := ZLgg.out; have z15_ := Zw22.out; have z16_ := Zw23.out; have z17_ := Zw24.out; have z18_ := Zw25.out; have z19_ := Zw26.out; have z20_ := Zb0.out; have z21_ := Zb1.out; have z22_ := Zw27.out
  have cgx1w27_0 : w27.cell? ⟨gx1, 0, none⟩ = some (.int .i64 x1_0) := (blk_cell Kgx1.out 0).trans rfl; have cgx1w27_1 : w27.cell? ⟨gx1, 1, none⟩ = some (.int .i64 x1_1) := (blk_cell Kgx1.out 1).trans rfl; have cgx1w27_2 : w27.cell? ⟨gx1, 2, none⟩ = some (.int .i64 x1_2) := (blk_cell Kgx1.out 2).trans rfl; have cgx1w27_3 : w27.cell? ⟨gx1, 3, none⟩ = some (.slice Ax1 x1_3.length cx1) := (blk_cell Kgx1.out 3).trans rfl; have cgx1w27_4 : w27.cell? ⟨gx1, 4, none⟩ = some (.int .i64 x1_4) := (blk_cell Kgx1.out 4).trans rfl; have cgx1w27_5 : w27.cell? ⟨gx1, 5, none⟩ = some (.int .i64 x1_5) := (blk_cell Kgx1.out 5).trans rfl; have cgx1w27_6 : w27.cell? ⟨gx1, 6, none⟩ = some (.int .i64 x1_6) := (blk_cell Kgx1.out 6).trans rfl; have cgx1w27_7 : w27.cell? ⟨gx1, 7, none⟩ = some (.int .i64 x1_7) := (blk_cell Kgx1.out 7).trans rfl; have cgx1w27_8 : w27.cell? ⟨gx1, 8, none⟩ = some (.bool x1_8) := (blk_cell Kgx1.out 8).trans rfl
  go_upto_region 21 with (first
    | (go_at_call 45; (with_reducible refine (laws_markLayer.calls k x1_0 x1_1 x1_2 (fun k_ => w17.heap.size ≤ k_ ∧ k_ < w18.heap.size) (.slice Ax1 x1_3.length cx1) x1_3 x1_4 x1_5 x1_6 x1_7 x1_8 k0 k1 y1 w w27 HB.out Rx1.out HM1.out).mono ?_); rintro e w28 ⟨rfl, hr, hb, hK⟩; replace Kgb0 := Aside0.mk ((hK.2 gb0 (blk_lt Kgb0.out) (by have b_ := blk_lt Kgb0.out; rintro ⟨h1_, h2_⟩; omega)).trans Kgb0.out); replace Kgb1 := Aside0.mk ((hK.2 gb1 (blk_lt Kgb1.out) (by have b_ := blk_lt Kgb1.out; rintro ⟨h1_, h2_⟩; omega)).trans Kgb1.out); replace Kgw := Aside0.mk ((hK.2 gw (blk_lt Kgw.out) (by have b_ := blk_lt Kgw.out; rintro ⟨h1_, h2_⟩; omega)).trans Kgw.out); replace Kgx0 := Aside0.mk ((hK.2 gx0 (blk_lt Kgx0.out) (by have b_ := blk_lt Kgx0.out; rintro ⟨h1_, h2_⟩; omega)).trans Kgx0.out); replace Kgx1 := Aside0.mk ((hK.2 gx1 (blk_lt Kgx1.out) (by have b_ := blk_lt Kgx1.out; rintro ⟨h1_, h2_⟩; omega)).trans Kgx1.out); replace Kgg := Aside0.mk ((hK.2 gg (blk_lt Kgg.out) (by have b_ := blk_lt Kgg.out; rintro ⟨h1_, h2_⟩; omega)).trans Kgg.out); replace Rw := Aside0.mk (Kd.R_kept Rw.out hK (by rintro k_ ⟨h1_, h2_⟩ ⟨h3_, h4_⟩; omega)); replace Rg := Aside0.mk (Kd.R_kept Rg.out hK (by rintro k_ ⟨h1_, h2_⟩ ⟨h3_, h4_⟩; omega)); replace HB := Aside0.mk hb; replace Rx1 := Aside0.mk hr; have Zw28 := Aside0.mk hK.1; clear hr hb hK))
  try clear cgx1w27_0 cgx1w27_1 cgx1w27_2 cgx1w27_3 cgx1w27_4 cgx1w27_5 cgx1w27_6 cgx1w27_7 cgx1w27_8
  clear z0_ z1_ z2_ z3_ z4_ z5_ z6_ z7_ z8_ z9_ z10_ z11_ z12_ z13_ z14_ z15_ z16_ z17_ z18_ z19_ z20_ z21_ z22_
  have cggw28_0 : w28.cell? ⟨gg, 0, none⟩ = some (.int .i64 v0) := (blk_cell Kgg.out 0).trans rfl; have cggw28_1 : w28.cell? ⟨gg, 1, none⟩ = some (.int .i64 v1) := (blk_cell Kgg.out 1).trans rfl; have cggw28_2 : w28.cell? ⟨gg, 2, none⟩ = some (.int .i64 v2) := (blk_cell Kgg.out 2).trans rfl; have cggw28_3 : w28.cell? ⟨gg, 3, none⟩ = some (.slice Ag v3.length cg) := (blk_cell Kgg.out 3).trans rfl
  have cgww28_0 : w28.cell? ⟨gw, 0, none⟩ = some (.int .i64 v0) := (blk_cell Kgw.out 0).trans rfl; have cgww28_1 : w28.cell? ⟨gw, 1, none⟩ = some (.int .i64 v1) := (blk_cell Kgw.out 1).trans rfl; have cgww28_2 : w28.cell? ⟨gw, 2, none⟩ = some (.int .i64 v2) := (blk_cell Kgw.out 2).trans rfl; have cgww28_3 : w28.cell? ⟨gw, 3, none⟩ = some (.slice Aw v3.length cw) := (blk_cell Kgw.out 3).trans rfl
  go_upto_region 23 with (first
    | (go_at_call 24; (with_reducible refine (laws_eqImage.calls k v0 v1 v2 Ag cg v3 v0 v1 v2 Aw cw v3 true w28 (Kd.R_reads' Rg.out).2.2 (Kd.R_reads' Rg.out).2.1 (Kd.R_reads' Rw.out).2.2 (Kd.R_reads' Rw.out).2.1 HEV.out rfl).mono ?_); rintro e w29 ⟨rfl, hb⟩; replace HB := Aside0.mk (below_then HB.out HB.out.size hb); replace Kgb0 := Aside0.mk (blk_below Kgb0.out hb); replace Kgb1 := Aside0.mk (blk_below Kgb1.out hb); replace Kgw := Aside0.mk (blk_below Kgw.out hb); replace Kgx0 := Aside0.mk (blk_below Kgx0.out hb); replace Kgx1 := Aside0.mk (blk_below Kgx1.out hb); replace Kgg := Aside0.mk (blk_below Kgg.out hb); replace Rw := Aside0.mk (Kd.R_below Rw.out hb); replace Rg := Aside0.mk (Kd.R_below Rg.out hb); have Zw29 := Aside0.mk hb.size; clear hb))
  try clear cggw28_0 cggw28_1 cggw28_2 cggw28_3 cgww28_0 cgww28_1 cgww28_2 cgww28_3
  have z0_ := NZw.out; have z1_ := Zgw.out; have z2_ := ZLgw.out; have z3_ := Zw16.out; have z4_ := Zw17.out; have z5_ := Zgx0.out; have z6_ := ZLgx0.out; have z7_ := Zw18.out; have z8_ := Zw19.out; have z9_ := Zgx1.out; have z10_ := ZLgx1.out; have z11_ := Zw20.out; have z12_ := Zw21.out; have z13_ := Zgg.out; have z14_ := ZLgg.out; have z15_ := Zw22.out; have z16_ := Zw23.out; have z17_ := Zw24.out; have z18_ := Zw25.out; have z19_ := Zw26.out; have z20_ := Zb0.out; have z21_ := Zb1.out; have z22_ := Zw27.out; have z23_ := Zw28.out; have z24_ := Zw29.out
  have cggw29_0 : w29.cell? ⟨gg, 0, none⟩ = some (.int .i64 v0) := (blk_cell Kgg.out 0).trans rfl; have cggw29_1 : w29.cell? ⟨gg, 1, none⟩ = some (.int .i64 v1) := (blk_cell Kgg.out 1).trans rfl; have cggw29_2 : w29.cell? ⟨gg, 2, none⟩ = some (.int .i64 v2) := (blk_cell Kgg.out 2).trans rfl; have cggw29_3 : w29.cell? ⟨gg, 3, none⟩ = some (.slice Ag v3.length cg) := (blk_cell Kgg.out 3).trans rfl
  go_upto_region 25 with (first
    | (go_at_call 31; (with_reducible refine (laws_markImage.calls k v0 v1 v2 (fun k_ => w19.heap.size ≤ k_ ∧ k_ < w20.heap.size) (.slice Ag v3.length cg) v3 1 m u w w29 HB.out Rg.out HMR.out).mono ?_); rintro e w30 ⟨rfl, hr, hb, hK⟩; replace Kgb0 := Aside0.mk ((hK.2 gb0 (blk_lt Kgb0.out) (by have b_ := blk_lt Kgb0.out; rintro ⟨h1_, h2_⟩; omega)).trans Kgb0.out); replace Kgb1 := Aside0.mk ((hK.2 gb1 (blk_lt Kgb1.out) (by have b_ := blk_lt Kgb1.out; rintro ⟨h1_, h2_⟩; omega)).trans Kgb1.out); replace Kgw := Aside0.mk ((hK.2 gw (blk_lt Kgw.out) (by have b_ := blk_lt Kgw.out; rintro ⟨h1_, h2_⟩; omega)).trans Kgw.out); replace Kgx0 := Aside0.mk ((hK.2 gx0 (blk_lt Kgx0.out) (by have b_ := blk_lt Kgx0.out; rintro ⟨h1_, h2_⟩; omega)).trans Kgx0.out); replace Kgx1 := Aside0.mk ((hK.2 gx1 (blk_lt Kgx1.out) (by have b_ := blk_lt Kgx1.out; rintro ⟨h1_, h2_⟩; omega)).trans Kgx1.out); replace Kgg := Aside0.mk ((hK.2 gg (blk_lt Kgg.out) (by have b_ := blk_lt Kgg.out; rintro ⟨h1_, h2_⟩; omega)).trans Kgg.out); replace Rw := Aside0.mk (Kd.R_kept Rw.out hK (by rintro k_ ⟨h1_, h2_⟩ ⟨h3_, h4_⟩; omega)); replace HB := Aside0.mk hb; replace Rg := Aside0.mk hr; have Zw30 := Aside0.mk hK.1; clear hr hb hK))
  try clear cggw29_0 cggw29_1 cggw29_2 cggw29_3
  clear z0_ z1_ z2_ z3_ z4_ z5_ z6_ z7_ z8_ z9_ z10_ z11_ z12_ z13_ z14_ z15_ z16_ z17_ z18_ z19_ z20_ z21_ z22_ z23_ z24_
  have eu := Aside0.mk (Kd.R_reads' Rg.out).1
  replace Kgg := Aside0.mk (show w30.heap[gg]? = some (.cells #[.int .i64 v0, .int .i64 v1, .int .i64 v2, .slice Ag u.length cg] 27 (0, 0)) from by rw [← eu.out]; exact Kgg.out)
  replace Rg := Aside0.mk (show Kd.R (Kd.int .i64) 3 w30 w.heap.size (fun k_ => 0 ≤ k_ ∧ k_ < w30.heap.size) (.slice Ag u.length cg) u from by rw [← eu.out]; exact Kd.R_mono (Kd.R_bound Rg.out) (fun k_ hk_ => ⟨Nat.zero_le _, hk_.2.2.1⟩))
  clear eu
  have cggw30_0 : w30.cell? ⟨gg, 0, none⟩ = some (.int .i64 v0) := (blk_cell Kgg.out 0).trans rfl; have cggw30_1 : w30.cell? ⟨gg, 1, none⟩ = some (.int .i64 v1) := (blk_cell Kgg.out 1).trans rfl; have cggw30_2 : w30.cell? ⟨gg, 2, none⟩ = some (.int .i64 v2) := (blk_cell Kgg.out 2).trans rfl; have cggw30_3 : w30.cell? ⟨gg, 3, none⟩ = some (.slice Ag u.length cg) := (blk_cell Kgg.out 3).trans rfl
  go_upto_region 31 with (first
    | (go_at_call 59; (with_reducible refine (laws_heldImage.calls k v0 v1 v2 Ag cg u 1 m w30 (Kd.R_reads' Rg.out).2.2 (Kd.R_reads' Rg.out).2.1 HHR.out).mono ?_); rintro e w31 ⟨rfl, hb⟩; replace HB := Aside0.mk (below_then HB.out HB.out.size hb); replace Kgb0 := Aside0.mk (blk_below Kgb0.out hb); replace Kgb1 := Aside0.mk (blk_below Kgb1.out hb); replace Kgw := Aside0.mk (blk_below Kgw.out hb); replace Kgg := Aside0.mk (blk_below Kgg.out hb); replace Rw := Aside0.mk (Kd.R_below Rw.out hb); replace Rg := Aside0.mk (Kd.R_below Rg.out hb); have Zw31 := Aside0.mk hb.size; clear hb))
  try clear cggw30_0 cggw30_1 cggw30_2 cggw30_3
  have HBSh := Aside0.mk HB.out.size
  have HZh := Aside0.mk (Nat.le_refl w31.heap.size)
  replace HB := Aside0.mk (below_drew HB.out)
  replace Kgb0 := Aside0.mk (blk_below Kgb0.out (below_drew (Below.refl _ _)))
  replace Kgb1 := Aside0.mk (blk_below Kgb1.out (below_drew (Below.refl _ _)))
  replace Kgw := Aside0.mk (blk_below Kgw.out (below_drew (Below.refl _ _)))
  replace Kgg := Aside0.mk (blk_below Kgg.out (below_drew (Below.refl _ _)))
  replace Rw := Aside0.mk (Kd.R_drew Rw.out)
  replace Rg := Aside0.mk (Kd.R_drew Rg.out)
  replace HZh := Aside0.mk (show w31.heap.size ≤ w31.drew.heap.size from HZh.out)
  have QKgb0 := Aside0.mk (show gb0 < w31.heap.size from blk_lt Kgb0.out)
  have QKgb1 := Aside0.mk (show gb1 < w31.heap.size from blk_lt Kgb1.out)
  have QKgw := Aside0.mk (show gw < w31.heap.size from blk_lt Kgw.out)
  have QKgg := Aside0.mk (show gg < w31.heap.size from blk_lt Kgg.out)
  refine start_ (n := 11) (S := fun w' => w'.cell? ⟨gb0, 0, none⟩ = some (.int .i64 a0_0) ∧ w'.cell? ⟨gb0, 1, none⟩ = some (.int .i64 a0_1) ∧ w'.cell? ⟨gb0, 2, none⟩ = some (.int .i64 a0_2) ∧ w'.cell? ⟨gb0, 3, none⟩ = some (.slice A0_3 l0_3.length c0_3) ∧ w'.cell? ⟨gb1, 0, none⟩ = some (.int .i64 a1_0) ∧ w'.cell? ⟨gb1, 1, none⟩ = some (.int .i64 a1_1) ∧ w'.cell? ⟨gb1, 2, none⟩ = some (.int .i64 a1_2) ∧ w'.cell? ⟨gb1, 3, none⟩ = some (.slice A1_3 l1_3.length c1_3) ∧ w'.cell? ⟨gb1, 4, none⟩ = some (.int .i64 a1_4) ∧ w'.cell? ⟨gb1, 5, none⟩ = some (.int .i64 a1_5) ∧ w'.cell? ⟨gb1, 6, none⟩ = some (.int .i64 a1_6) ∧ w'.cell? ⟨gb1, 7, none⟩ = some (.int .i64 a1_7) ∧ w'.cell? ⟨gb1, 8, none⟩ = some (.bool a1_8)) (ds := []) #[false, false, false, false, false, false, false, false, false, false, false] (by kernel_rfl) rfl rfl ⟨((blk_cell Kgb0.out 0).trans rfl), ((blk_cell Kgb0.out 1).trans rfl), ((blk_cell Kgb0.out 2).trans rfl), ((blk_cell Kgb0.out 3).trans rfl), ((blk_cell Kgb1.out 0).trans rfl), ((blk_cell Kgb1.out 1).trans rfl), ((blk_cell Kgb1.out 2).trans rfl), ((blk_cell Kgb1.out 3).trans rfl), ((blk_cell Kgb1.out 4).trans rfl), ((blk_cell Kgb1.out 5).trans rfl), ((blk_cell Kgb1.out 6).trans rfl), ((blk_cell Kgb1.out 7).trans rfl), ((blk_cell Kgb1.out 8).trans rfl)⟩ (fun hHeld => ?_)
  refine take_ (i := 0) (N := some 95) (v := ?_) (a' := ?_) #[true, false, false, false, false, false, false, false, false, false, false] rfl rfl (by kernel_rfl) (fun _ _ _ h => h) (Or.inl ⟨by rfl, ?_⟩) hHeld ?_ ?_
  rotate_left
  · rintro w' ⟨s0, s1, s2, s3, s4, s5, s6, s7, s8, s9, s10, s11, s12⟩
    go_simp
    with_reducible rfl
  rotate_left
  · simp only [Act.put, List.setIfInBounds_toArray, List.set_cons_zero, List.set_cons_succ, i64_w, i32_w]
    rfl
  refine take_ (i := 2) (N := some 97) (v := ?_) (a' := ?_) #[true, false, true, false, false, false, false, false, false, false, false] rfl rfl (by kernel_rfl) (fun _ _ _ h => h) (Or.inl ⟨by rfl, ?_⟩) hHeld ?_ ?_
  rotate_left
  · rintro w' ⟨s0, s1, s2, s3, s4, s5, s6, s7, s8, s9, s10, s11, s12⟩
    go_simp
    with_reducible rfl
  rotate_left
  · simp only [Act.put, List.setIfInBounds_toArray, List.set_cons_zero, List.set_cons_succ, i64_w, i32_w]
    rfl
  refine join_ (σ := Value × Value × Value × Nat) 2 #[true, true, true, true, true, true, true, true, true, false, false] (fun s_ => [(96, .agg #[.int .i64 x0_0, .int .i64 x0_1, .int .i64 x0_2, s_.1]), (98, .agg #[.int .i64 x1_0, .int .i64 x1_1, .int .i64 x1_2, s_.2.1, .int .i64 x1_4, .int .i64 x1_5, .int .i64 x1_6, .int .i64 x1_7, .bool x1_8]), (99, .tuple #[.agg #[.int .i64 v0, .int .i64 v1, .int .i64 v2, s_.2.2.1], .bool vok]), (94, .tuple #[.agg #[.int .i64 v0, .int .i64 v1, .int .i64 v2, s_.2.2.1], .bool vok]), (100, .agg #[.int .i64 v0, .int .i64 v1, .int .i64 v2, s_.2.2.1]), (101, .bool vok), (15, .pointer (some ⟨s_.2.2.2, 0, none⟩))]) (fun s_ w' => Kd.R (Kd.int .i64) 3 w' w.heap.size (fun k_ => w31.heap.size ≤ k_ ∧ k_ < w'.heap.size) (s_.2.2.1) v3 ∧ w'.heap[s_.2.2.2]? = some (.cells #[.int .i64 0, .int .i64 0, .int .i64 0, .slice none 0 0] 27 (0, 0)) ∧ w31.heap.size ≤ s_.2.2.2 ∧ w'.heap[gb0]? = some (.cells #[.int .i64 a0_0, .int .i64 a0_1, .int .i64 a0_2, .slice A0_3 l0_3.length c0_3] 24 (0, 0)) ∧ w'.heap[gb1]? = some (.cells #[.int .i64 a1_0, .int .i64 a1_1, .int .i64 a1_2, .slice A1_3 l1_3.length c1_3, .int .i64 a1_4, .int .i64 a1_5, .int .i64 a1_6, .int .i64 a1_7, .bool a1_8] 51 (0, 0)) ∧ w'.heap[gw]? = some (.cells #[.int .i64 v0, .int .i64 v1, .int .i64 v2, .slice Aw v3.length cw] 27 (0, 0)) ∧ w'.heap[gg]? = some (.cells #[.int .i64 v0, .int .i64 v1, .int .i64 v2, .slice Ag u.length cg] 27 (0, 0)) ∧ Kd.R (Kd.int .i64) 3 w' w.heap.size (fun k_ => wz1.heap.size ≤ k_ ∧ k_ < w15.heap.size) (.slice Aw v3.length cw) v3 ∧ Kd.R (Kd.int .i64) 3 w' w.heap.size (fun k_ => 0 ≤ k_ ∧ k_ < w30.heap.size) (.slice Ag u.length cg) u ∧ Below w.heap.size w w' ∧ w31.heap.size ≤ w'.heap.size) ?_ ?_
  rotate_left
  · intro hCont
    refine two_ (i := 1) (j := 8) (Ni := some 96) (Nj := some 15) #[true, true, true, false, false, false, false, false, false, false, false] #[true, false, true, false, false, false, false, false, true, false, false] rfl rfl rfl rfl (by kernel_rfl) (by decide) (by decide) (fun K hK => ?_) (fun K hK => ?_)
    · skip
      refine goes_ Try.func22 (by kernel_rfl) rfl #[.agg #[.int .i64 a0_0, .int .i64 a0_1, .int .i64 a0_2, .slice A0_3 l0_3.length c0_3]] (by rfl) rfl rfl (by simp only [List.map_toArray, List.map_cons, List.map_nil]; rfl) ?_
      with_reducible refine (laws_toImage.calls k a0_0 a0_1 a0_2 A0_3 c0_3 l0_3 x0_0 x0_1 x0_2 x0_3 _ (Kd.C_below HR0.out HB.out) HC0.out HT0.out).mono ?_
      rintro e w33 ⟨vt_, rfl, hr_, hb_⟩
      refine ⟨_, rfl, ?_⟩
      replace HB := Aside0.mk (below_then HB.out HB.out.size hb_)
      replace Kgb0 := Aside0.mk (blk_below Kgb0.out hb_)
      replace Kgb1 := Aside0.mk (blk_below Kgb1.out hb_)
      replace Kgw := Aside0.mk (blk_below Kgw.out hb_)
      replace Kgg := Aside0.mk (blk_below Kgg.out hb_)
      replace Rw := Aside0.mk (Kd.R_below Rw.out hb_)
      replace Rg := Aside0.mk (Kd.R_below Rg.out hb_)
      replace HZh := Aside0.mk (Nat.le_trans HZh.out hb_.size)
      obtain ⟨At0, ct0, rfl, hl_, hC_⟩ := Kd.R_reads hr_
      have HT_0 := Aside0.mk hC_
      have HL_0 := Aside0.mk hl_
      clear hr_ hb_ hl_ hC_
      refine hK.out _ _ ⟨((blk_cell Kgb0.out 0).trans rfl), ((blk_cell Kgb0.out 1).trans rfl), ((blk_cell Kgb0.out 2).trans rfl), ((blk_cell Kgb0.out 3).trans rfl), ((blk_cell Kgb1.out 0).trans rfl), ((blk_cell Kgb1.out 1).trans rfl), ((blk_cell Kgb1.out 2).trans rfl), ((blk_cell Kgb1.out 3).trans rfl), ((blk_cell Kgb1.out 4).trans rfl), ((blk_cell Kgb1.out 5).trans rfl), ((blk_cell Kgb1.out 6).trans rfl), ((blk_cell Kgb1.out 7).trans rfl), ((blk_cell Kgb1.out 8).trans rfl)⟩ (fun hHeld => ?_)
      clear hK K
      refine norm_ (a' := ?_) ?_ ?_
      rotate_left
      · show Act.put _ (some 96) _ = _
        simp only [Act.put, List.setIfInBounds_toArray, List.set_cons_zero, List.set_cons_succ, i64_w, i32_w]
        rfl
      refine two_ (i := 3) (j := 8) (Ni := some 98) (Nj := some 15) #[true, true, true, true, false, false, false, false, false, false, false] #[true, true, true, false, false, false, false, false, true, false, false] rfl rfl rfl rfl (by kernel_rfl) (by decide) (by decide) (fun K hK => ?_) (fun K hK => ?_)
      · skip
        refine goes_ Try.func41 (by kernel_rfl) rfl #[.agg #[.int .i64 a1_0, .int .i64 a1_1, .int .i64 a1_2, .slice A1_3 l1_3.length c1_3, .int .i64 a1_4, .int .i64 a1_5, .int .i64 a1_6, .int .i64 a1_7, .bool a1_8]] (by rfl) rfl rfl (by simp only [List.map_toArray, List.map_cons, List.map_nil]; rfl) ?_
        with_reducible refine (laws_toLayer.calls k a1_0 a1_1 a1_2 A1_3 c1_3 l1_3 a1_4 a1_5 a1_6 a1_7 a1_8 x1_0 x1_1 x1_2 x1_3 x1_4 x1_5 x1_6 x1_7 x1_8 _ (Kd.C_below HR1.out HB.out) HC1.out HT1.out).mono ?_
        rintro e w34 ⟨vt_, rfl, hr_, hb_⟩
        refine ⟨_, rfl, ?_⟩
        replace HB := Aside0.mk (below_then HB.out HB.out.size hb_)
        replace Kgb0 := Aside0.mk (blk_below Kgb0.out hb_)
        replace Kgb1 := Aside0.mk (blk_below Kgb1.out hb_)
        replace Kgw := Aside0.mk (blk_below Kgw.out hb_)
        replace Kgg := Aside0.mk (blk_below Kgg.out hb_)
        replace Rw := Aside0.mk (Kd.R_below Rw.out hb_)
        replace Rg := Aside0.mk (Kd.R_below Rg.out hb_)
        replace HT_0 := Aside0.mk (Kd.C_below HT_0.out hb_)
        replace HZh := Aside0.mk (Nat.le_trans HZh.out hb_.size)
        obtain ⟨At1, ct1, rfl, hl_, hC_⟩ := Kd.R_reads hr_
        have HT_1 := Aside0.mk hC_
        have HL_1 := Aside0.mk hl_
        clear hr_ hb_ hl_ hC_
        refine hK.out _ _ ⟨((blk_cell Kgb0.out 0).trans rfl), ((blk_cell Kgb0.out 1).trans rfl), ((blk_cell Kgb0.out 2).trans rfl), ((blk_cell Kgb0.out 3).trans rfl), ((blk_cell Kgb1.out 0).trans rfl), ((blk_cell Kgb1.out 1).trans rfl), ((blk_cell Kgb1.out 2).trans rfl), ((blk_cell Kgb1.out 3).trans rfl), ((blk_cell Kgb1.out 4).trans rfl), ((blk_cell Kgb1.out 5).trans rfl), ((blk_cell Kgb1.out 6).trans rfl), ((blk_cell Kgb1.out 7).trans rfl), ((blk_cell Kgb1.out 8).trans rfl)⟩ (fun hHeld => ?_)
        clear hK K
        refine norm_ (a' := ?_) ?_ ?_
        rotate_left
        · show Act.put _ (some 98) _ = _
          simp only [Act.put, List.setIfInBounds_toArray, List.set_cons_zero, List.set_cons_succ, i64_w, i32_w]
          rfl
        refine two_ (i := 4) (j := 8) (Ni := some 99) (Nj := some 15) #[true, true, true, true, true, false, false, false, false, false, false] #[true, true, true, true, false, false, false, false, true, false, false] rfl rfl rfl rfl (by kernel_rfl) (by decide) (by decide) (fun K hK => ?_) (fun K hK => ?_)
        · skip
          refine goes_ Try.func49 (by kernel_rfl) rfl #[.agg #[.int .i64 x0_0, .int .i64 x0_1, .int .i64 x0_2, .slice At0 x0_3.length ct0], .agg #[.int .i64 x1_0, .int .i64 x1_1, .int .i64 x1_2, .slice At1 x1_3.length ct1, .int .i64 x1_4, .int .i64 x1_5, .int .i64 x1_6, .int .i64 x1_7, .bool x1_8]] (by rfl) rfl rfl (by simp only [List.map_toArray, List.map_cons, List.map_nil]; rfl) ?_
          with_reducible refine (impl_CoverImage.calls x0_0 x0_1 x0_2 At0 ct0 x0_3 x1_0 x1_1 x1_2 At1 ct1 x1_3 x1_4 x1_5 x1_6 x1_7 x1_8 v0 v1 v2 v3 vok _ HT_0.out HL_0.out HT_1.out HL_1.out HIM.out).mono ?_
          rintro e w35 ⟨vw_, rfl, hr_, hb_⟩
          refine ⟨_, rfl, ?_⟩
          have HZp_ := HZh
          have HBp_ := HB
          replace HB := Aside0.mk (below_then HB.out HB.out.size hb_)
          replace Kgb0 := Aside0.mk (blk_below Kgb0.out hb_)
          replace Kgb1 := Aside0.mk (blk_below Kgb1.out hb_)
          replace Kgw := Aside0.mk (blk_below Kgw.out hb_)
          replace Kgg := Aside0.mk (blk_below Kgg.out hb_)
          replace Rw := Aside0.mk (Kd.R_below Rw.out hb_)
          replace Rg := Aside0.mk (Kd.R_below Rg.out hb_)
          replace HT_0 := Aside0.mk (Kd.C_below HT_0.out hb_)
          replace HT_1 := Aside0.mk (Kd.C_below HT_1.out hb_)
          replace HZh := Aside0.mk (Nat.le_trans HZh.out hb_.size)
          have Rh := Aside0.mk (Kd.R_lower (Kd.R_mono (Kd.R_bound hr_) (fun k_ hk_ => (⟨Nat.le_trans HZp_.out hk_.2.1, hk_.2.2.1⟩ : w31.heap.size ≤ k_ ∧ k_ < w35.heap.size))) HBp_.out.size)
          clear hr_ hb_ HZp_ HBp_
          refine hK.out _ _ ⟨((blk_cell Kgb0.out 0).trans rfl), ((blk_cell Kgb0.out 1).trans rfl), ((blk_cell Kgb0.out 2).trans rfl), ((blk_cell Kgb0.out 3).trans rfl), ((blk_cell Kgb1.out 0).trans rfl), ((blk_cell Kgb1.out 1).trans rfl), ((blk_cell Kgb1.out 2).trans rfl), ((blk_cell Kgb1.out 3).trans rfl), ((blk_cell Kgb1.out 4).trans rfl), ((blk_cell Kgb1.out 5).trans rfl), ((blk_cell Kgb1.out 6).trans rfl), ((blk_cell Kgb1.out 7).trans rfl), ((blk_cell Kgb1.out 8).trans rfl)⟩ (fun hHeld => ?_)
          clear hK K
          refine norm_ (a' := ?_) ?_ ?_
          rotate_left
          · show Act.put _ (some 99) _ = _
            simp only [Act.put, List.setIfInBounds_toArray, List.set_cons_zero, List.set_cons_succ, i64_w, i32_w]
            rfl
          refine pure_ (i := 5) (N := some 94) (v := ?_) (a' := ?_) #[true, true, true, true, true, true, false, false, false, false, false] rfl rfl (by kernel_rfl) (fun _ _ _ h => h) (Or.inl ⟨by rfl, ?_⟩) ?_ ?_
          rotate_left
          · intro w'
            go_simp
            with_reducible rfl
          rotate_left
          · simp only [Act.put, List.setIfInBounds_toArray, List.set_cons_zero, List.set_cons_succ, i64_w, i32_w]
            rfl
          refine pure_ (i := 6) (N := some 100) (v := ?_) (a' := ?_) #[true, true, true, true, true, true, true, false, false, false, false] rfl rfl (by kernel_rfl) (fun _ _ _ h => h) (Or.inl ⟨by rfl, ?_⟩) ?_ ?_
          rotate_left
          · intro w'
            go_simp
            with_reducible rfl
          rotate_left
          · simp only [Act.put, List.setIfInBounds_toArray, List.set_cons_zero, List.set_cons_succ, i64_w, i32_w]
            rfl
          refine pure_ (i := 7) (N := some 101) (v := ?_) (a' := ?_) #[true, true, true, true, true, true, true, true, false, false, false] rfl rfl (by kernel_rfl) (fun _ _ _ h => h) (Or.inl ⟨by rfl, ?_⟩) ?_ ?_
          rotate_left
          · intro w'
            go_simp
            with_reducible rfl
          rotate_left
          · simp only [Act.put, List.setIfInBounds_toArray, List.set_cons_zero, List.set_cons_succ, i64_w, i32_w]
            rfl
          refine one_ (i := 8) (N := some 15) #[true, true, true, true, true, true, true, true, true, false, false] rfl rfl (by kernel_rfl) (by decide) (fun K hK => ?_)
          refine value_ (w1 := ?_) (v := ?_) (by rfl) rfl ?_ ?_
          rotate_left 2
          · go_simp
            constructor
            · rfl
            · rfl
          replace HB := Aside0.mk (below_alloc HB.out (.cells #[.int .i64 0, .int .i64 0, .int .i64 0, .slice none 0 0] 27))
          replace Kgb0 := Aside0.mk (blk_alloc Kgb0.out (.cells #[.int .i64 0, .int .i64 0, .int .i64 0, .slice none 0 0] 27))
          replace Kgb1 := Aside0.mk (blk_alloc Kgb1.out (.cells #[.int .i64 0, .int .i64 0, .int .i64 0, .slice none 0 0] 27))
          replace Kgw := Aside0.mk (blk_alloc Kgw.out (.cells #[.int .i64 0, .int .i64 0, .int .i64 0, .slice none 0 0] 27))
          replace Kgg := Aside0.mk (blk_alloc Kgg.out (.cells #[.int .i64 0, .int .i64 0, .int .i64 0, .slice none 0 0] 27))
          replace Rw := Aside0.mk (Kd.R_alloc Rw.out (.cells #[.int .i64 0, .int .i64 0, .int .i64 0, .slice none 0 0] 27))
          replace Rg := Aside0.mk (Kd.R_alloc Rg.out (.cells #[.int .i64 0, .int .i64 0, .int .i64 0, .slice none 0 0] 27))
          replace HT_0 := Aside0.mk (Kd.C_alloc HT_0.out (.cells #[.int .i64 0, .int .i64 0, .int .i64 0, .slice none 0 0] 27))
          replace HT_1 := Aside0.mk (Kd.C_alloc HT_1.out (.cells #[.int .i64 0, .int .i64 0, .int .i64 0, .slice none 0 0] 27))
          replace Rh := Aside0.mk (Kd.R_mono (Kd.R_bound (Kd.R_alloc Rh.out (.cells #[.int .i64 0, .int .i64 0, .int .i64 0, .slice none 0 0] 27))) (fun k_ hk_ => (⟨hk_.1.1, hk_.2.2.1⟩ : w31.heap.size ≤ k_ ∧ k_ < (w35.alloc (.cells #[.int .i64 0, .int .i64 0, .int .i64 0, .slice none 0 0] 27)).heap.size)))
          have KA_ := Aside0.mk (blk_new w35 (.cells #[.int .i64 0, .int .i64 0, .int .i64 0, .slice none 0 0] 27 (0, 0)))
          have GA_ := HZh
          replace HZh := Aside0.mk (Nat.le_trans HZh.out (below_alloc (Below.refl _ _) (.cells #[.int .i64 0, .int .i64 0, .int .i64 0, .slice none 0 0] 27)).size)
          refine hK.out _ _ ⟨((blk_cell Kgb0.out 0).trans rfl), ((blk_cell Kgb0.out 1).trans rfl), ((blk_cell Kgb0.out 2).trans rfl), ((blk_cell Kgb0.out 3).trans rfl), ((blk_cell Kgb1.out 0).trans rfl), ((blk_cell Kgb1.out 1).trans rfl), ((blk_cell Kgb1.out 2).trans rfl), ((blk_cell Kgb1.out 3).trans rfl), ((blk_cell Kgb1.out 4).trans rfl), ((blk_cell Kgb1.out 5).trans rfl), ((blk_cell Kgb1.out 6).trans rfl), ((blk_cell Kgb1.out 7).trans rfl), ((blk_cell Kgb1.out 8).trans rfl)⟩ (fun hHeld => ?_)
          clear hK K
          refine norm_ (a' := ?_) ?_ ?_
          rotate_left
          · show Act.put _ (some 15) _ = _
            simp only [Act.put, List.setIfInBounds_toArray, List.set_cons_zero, List.set_cons_succ, i64_w, i32_w]
            rfl
          exact norm_ (by first | (simp only [putAll, Act.put, List.setIfInBounds_toArray, List.set_cons_zero, List.set_cons_succ]; done) | (simp only [putAll, Act.put, List.setIfInBounds_toArray, List.set_cons_zero, List.set_cons_succ]; rfl)) (hCont (.slice At0 x0_3.length ct0, .slice At1 x1_3.length ct1, vw_, w35.heap.size) _ ⟨Rh.out, KA_.out, GA_.out, Kgb0.out, Kgb1.out, Kgw.out, Kgg.out, Rw.out, Rg.out, HB.out, HZh.out⟩)
        · skip
          refine value_ (w1 := ?_) (v := ?_) (by rfl) rfl ?_ ?_
          rotate_left 2
          · go_simp
            constructor
            · rfl
            · rfl
          replace HB := Aside0.mk (below_alloc HB.out (.cells #[.int .i64 0, .int .i64 0, .int .i64 0, .slice none 0 0] 27))
          replace Kgb0 := Aside0.mk (blk_alloc Kgb0.out (.cells #[.int .i64 0, .int .i64 0, .int .i64 0, .slice none 0 0] 27))
          replace Kgb1 := Aside0.mk (blk_alloc Kgb1.out (.cells #[.int .i64 0, .int .i64 0, .int .i64 0, .slice none 0 0] 27))
          replace Kgw := Aside0.mk (blk_alloc Kgw.out (.cells #[.int .i64 0, .int .i64 0, .int .i64 0, .slice none 0 0] 27))
          replace Kgg := Aside0.mk (blk_alloc Kgg.out (.cells #[.int .i64 0, .int .i64 0, .int .i64 0, .slice none 0 0] 27))
          replace Rw := Aside0.mk (Kd.R_alloc Rw.out (.cells #[.int .i64 0, .int .i64 0, .int .i64 0, .slice none 0 0] 27))
          replace Rg := Aside0.mk (Kd.R_alloc Rg.out (.cells #[.int .i64 0, .int .i64 0, .int .i64 0, .slice none 0 0] 27))
          replace HT_0 := Aside0.mk (Kd.C_alloc HT_0.out (.cells #[.int .i64 0, .int .i64 0, .int .i64 0, .slice none 0 0] 27))
          replace HT_1 := Aside0.mk (Kd.C_alloc HT_1.out (.cells #[.int .i64 0, .int .i64 0, .int .i64 0, .slice none 0 0] 27))
          have KA_ := Aside0.mk (blk_new w34 (.cells #[.int .i64 0, .int .i64 0, .int .i64 0, .slice none 0 0] 27 (0, 0)))
          have GA_ := HZh
          replace HZh := Aside0.mk (Nat.le_trans HZh.out (below_alloc (Below.refl _ _) (.cells #[.int .i64 0, .int .i64 0, .int .i64 0, .slice none 0 0] 27)).size)
          refine hK.out _ _ ⟨((blk_cell Kgb0.out 0).trans rfl), ((blk_cell Kgb0.out 1).trans rfl), ((blk_cell Kgb0.out 2).trans rfl), ((blk_cell Kgb0.out 3).trans rfl), ((blk_cell Kgb1.out 0).trans rfl), ((blk_cell Kgb1.out 1).trans rfl), ((blk_cell Kgb1.out 2).trans rfl), ((blk_cell Kgb1.out 3).trans rfl), ((blk_cell Kgb1.out 4).trans rfl), ((blk_cell Kgb1.out 5).trans rfl), ((blk_cell Kgb1.out 6).trans rfl), ((blk_cell Kgb1.out 7).trans rfl), ((blk_cell Kgb1.out 8).trans rfl)⟩ (fun hHeld => ?_)
          clear hK K
          refine norm_ (a' := ?_) ?_ ?_
          rotate_left
          · show Act.put _ (some 15) _ = _
            simp only [Act.put, List.setIfInBounds_toArray, List.set_cons_zero, List.set_cons_succ, i64_w, i32_w]
            rfl
          refine one_ (i := 4) (N := some 99) #[true, true, true, true, true, false, false, false, true, false, false] rfl rfl (by kernel_rfl) (by decide) (fun K hK => ?_)
          refine goes_ Try.func49 (by kernel_rfl) rfl #[.agg #[.int .i64 x0_0, .int .i64 x0_1, .int .i64 x0_2, .slice At0 x0_3.length ct0], .agg #[.int .i64 x1_0, .int .i64 x1_1, .int .i64 x1_2, .slice At1 x1_3.length ct1, .int .i64 x1_4, .int .i64 x1_5, .int .i64 x1_6, .int .i64 x1_7, .bool x1_8]] (by rfl) rfl rfl (by simp only [List.map_toArray, List.map_cons, List.map_nil]; rfl) ?_
          with_reducible refine (impl_CoverImage.calls x0_0 x0_1 x0_2 At0 ct0 x0_3 x1_0 x1_1 x1_2 At1 ct1 x1_3 x1_4 x1_5 x1_6 x1_7 x1_8 v0 v1 v2 v3 vok _ HT_0.out HL_0.out HT_1.out HL_1.out HIM.out).mono ?_
          rintro e w38 ⟨vw_, rfl, hr_, hb_⟩
          refine ⟨_, rfl, ?_⟩
          have HZp_ := HZh
          have HBp_ := HB
          replace HB := Aside0.mk (below_then HB.out HB.out.size hb_)
          replace Kgb0 := Aside0.mk (blk_below Kgb0.out hb_)
          replace Kgb1 := Aside0.mk (blk_below Kgb1.out hb_)
          replace Kgw := Aside0.mk (blk_below Kgw.out hb_)
          replace Kgg := Aside0.mk (blk_below Kgg.out hb_)
          replace Rw := Aside0.mk (Kd.R_below Rw.out hb_)
          replace Rg := Aside0.mk (Kd.R_below Rg.out hb_)
          replace HT_0 := Aside0.mk (Kd.C_below HT_0.out hb_)
          replace HT_1 := Aside0.mk (Kd.C_below HT_1.out hb_)
          replace KA_ := Aside0.mk (blk_below KA_.out hb_)
          replace HZh := Aside0.mk (Nat.le_trans HZh.out hb_.size)
          have Rh := Aside0.mk (Kd.R_lower (Kd.R_mono (Kd.R_bound hr_) (fun k_ hk_ => (⟨Nat.le_trans HZp_.out hk_.2.1, hk_.2.2.1⟩ : w31.heap.size ≤ k_ ∧ k_ < w38.heap.size))) HBp_.out.size)
          clear hr_ hb_ HZp_ HBp_
          refine hK.out _ _ ⟨((blk_cell Kgb0.out 0).trans rfl), ((blk_cell Kgb0.out 1).trans rfl), ((blk_cell Kgb0.out 2).trans rfl), ((blk_cell Kgb0.out 3).trans rfl), ((blk_cell Kgb1.out 0).trans rfl), ((blk_cell Kgb1.out 1).trans rfl), ((blk_cell Kgb1.out 2).trans rfl), ((blk_cell Kgb1.out 3).trans rfl), ((blk_cell Kgb1.out 4).trans rfl), ((blk_cell Kgb1.out 5).trans rfl), ((blk_cell Kgb1.out 6).trans rfl), ((blk_cell Kgb1.out 7).trans rfl), ((blk_cell Kgb1.out 8).trans rfl)⟩ (fun hHeld => ?_)
          clear hK K
          refine norm_ (a' := ?_) ?_ ?_
          rotate_left
          · show Act.put _ (some 99) _ = _
            simp only [Act.put, List.setIfInBounds_toArray, List.set_cons_zero, List.set_cons_succ, i64_w, i32_w]
            rfl
          refine pure_ (i := 5) (N := some 94) (v := ?_) (a' := ?_) #[true, true, true, true, true, true, false, false, true, false, false] rfl rfl (by kernel_rfl) (fun _ _ _ h => h) (Or.inl ⟨by rfl, ?_⟩) ?_ ?_
          rotate_left
          · intro w'
            go_simp
            with_reducible rfl
          rotate_left
          · simp only [Act.put, List.setIfInBounds_toArray, List.set_cons_zero, List.set_cons_succ, i64_w, i32_w]
            rfl
          refine pure_ (i := 6) (N := some 100) (v := ?_) (a' := ?_) #[true, true, true, true, true, true, true, false, true, false, false] rfl rfl (by kernel_rfl) (fun _ _ _ h => h) (Or.inl ⟨by rfl, ?_⟩) ?_ ?_
          rotate_left
          · intro w'
            go_simp
            with_reducible rfl
          rotate_left
          · simp only [Act.put, List.setIfInBounds_toArray, List.set_cons_zero, List.set_cons_succ, i64_w, i32_w]
            rfl
          refine pure_ (i := 7) (N := some 101) (v := ?_) (a' := ?_) #[true, true, true, true, true, true, true, true, true, false, false] rfl rfl (by kernel_rfl) (fun _ _ _ h => h) (Or.inl ⟨by rfl, ?_⟩) ?_ ?_
          rotate_left
          · intro w'
            go_simp
            with_reducible rfl
          rotate_left
          · simp only [Act.put, List.setIfInBounds_toArray, List.set_cons_zero, List.set_cons_succ, i64_w, i32_w]
            rfl
          exact norm_ (by first | (simp only [putAll, Act.put, List.setIfInBounds_toArray, List.set_cons_zero, List.set_cons_succ]; done) | (simp only [putAll, Act.put, List.setIfInBounds_toArray, List.set_cons_zero, List.set_cons_succ]; rfl)) (hCont (.slice At0 x0_3.length ct0, .slice At1 x1_3.length ct1, vw_, w34.heap.size) _ ⟨Rh.out, KA_.out, GA_.out, Kgb0.out, Kgb1.out, Kgw.out, Kgg.out, Rw.out, Rg.out, HB.out, HZh.out⟩)
      · skip
        refine value_ (w1 := ?_) (v := ?_) (by rfl) rfl ?_ ?_
        rotate_left 2
        · go_simp
          constructor
          · rfl
          · rfl
        replace HB := Aside0.mk (below_alloc HB.out (.cells #[.int .i64 0, .int .i64 0, .int .i64 0, .slice none 0 0] 27))
        replace Kgb0 := Aside0.mk (blk_alloc Kgb0.out (.cells #[.int .i64 0, .int .i64 0, .int .i64 0, .slice none 0 0] 27))
        replace Kgb1 := Aside0.mk (blk_alloc Kgb1.out (.cells #[.int .i64 0, .int .i64 0, .int .i64 0, .slice none 0 0] 27))
        replace Kgw := Aside0.mk (blk_alloc Kgw.out (.cells #[.int .i64 0, .int .i64 0, .int .i64 0, .slice none 0 0] 27))
        replace Kgg := Aside0.mk (blk_alloc Kgg.out (.cells #[.int .i64 0, .int .i64 0, .int .i64 0, .slice none 0 0] 27))
        replace Rw := Aside0.mk (Kd.R_alloc Rw.out (.cells #[.int .i64 0, .int .i64 0, .int .i64 0, .slice none 0 0] 27))
        replace Rg := Aside0.mk (Kd.R_alloc Rg.out (.cells #[.int .i64 0, .int .i64 0, .int .i64 0, .slice none 0 0] 27))
        replace HT_0 := Aside0.mk (Kd.C_alloc HT_0.out (.cells #[.int .i64 0, .int .i64 0, .int .i64 0, .slice none 0 0] 27))
        have KA_ := Aside0.mk (blk_new w33 (.cells #[.int .i64 0, .int .i64 0, .int .i64 0, .slice none 0 0] 27 (0, 0)))
        have GA_ := HZh
        replace HZh := Aside0.mk (Nat.le_trans HZh.out (below_alloc (Below.refl _ _) (.cells #[.int .i64 0, .int .i64 0, .int .i64 0, .slice none 0 0] 27)).size)
        refine hK.out _ _ ⟨((blk_cell Kgb0.out 0).trans rfl), ((blk_cell Kgb0.out 1).trans rfl), ((blk_cell Kgb0.out 2).trans rfl), ((blk_cell Kgb0.out 3).trans rfl), ((blk_cell Kgb1.out 0).trans rfl), ((blk_cell Kgb1.out 1).trans rfl), ((blk_cell Kgb1.out 2).trans rfl), ((blk_cell Kgb1.out 3).trans rfl), ((blk_cell Kgb1.out 4).trans rfl), ((blk_cell Kgb1.out 5).trans rfl), ((blk_cell Kgb1.out 6).trans rfl), ((blk_cell Kgb1.out 7).trans rfl), ((blk_cell Kgb1.out 8).trans rfl)⟩ (fun hHeld => ?_)
        clear hK K
        refine norm_ (a' := ?_) ?_ ?_
        rotate_left
        · show Act.put _ (some 15) _ = _
          simp only [Act.put, List.setIfInBounds_toArray, List.set_cons_zero, List.set_cons_succ, i64_w, i32_w]
          rfl
        refine one_ (i := 3) (N := some 98) #[true, true, true, true, false, false, false, false, true, false, false] rfl rfl (by kernel_rfl) (by decide) (fun K hK => ?_)
        refine goes_ Try.func41 (by kernel_rfl) rfl #[.agg #[.int .i64 a1_0, .int .i64 a1_1, .int .i64 a1_2, .slice A1_3 l1_3.length c1_3, .int .i64 a1_4, .int .i64 a1_5, .int .i64 a1_6, .int .i64 a1_7, .bool a1_8]] (by rfl) rfl rfl (by simp only [List.map_toArray, List.map_cons, List.map_nil]; rfl) ?_
        with_reducible refine (laws_toLayer.calls k a1_0 a1_1 a1_2 A1_3 c1_3 l1_3 a1_4 a1_5 a1_6 a1_7 a1_8 x1_0 x1_1 x1_2 x1_3 x1_4 x1_5 x1_6 x1_7 x1_8 _ (Kd.C_below HR1.out HB.out) HC1.out HT1.out).mono ?_
        rintro e w40 ⟨vt_, rfl, hr_, hb_⟩
        refine ⟨_, rfl, ?_⟩
        replace HB := Aside0.mk (below_then HB.out HB.out.size hb_)
        replace Kgb0 := Aside0.mk (blk_below Kgb0.out hb_)
        replace Kgb1 := Aside0.mk (blk_below Kgb1.out hb_)
        replace Kgw := Aside0.mk (blk_below Kgw.out hb_)
        replace Kgg := Aside0.mk (blk_below Kgg.out hb_)
        replace Rw := Aside0.mk (Kd.R_below Rw.out hb_)
        replace Rg := Aside0.mk (Kd.R_below Rg.out hb_)
        replace HT_0 := Aside0.mk (Kd.C_below HT_0.out hb_)
        replace KA_ := Aside0.mk (blk_below KA_.out hb_)
        replace HZh := Aside0.mk (Nat.le_trans HZh.out hb_.size)
        obtain ⟨At1, ct1, rfl, hl_, hC_⟩ := Kd.R_reads hr_
        have HT_1 := Aside0.mk hC_
        have HL_1 := Aside0.mk hl_
        clear hr_ hb_ hl_ hC_
        refine hK.out _ _ ⟨((blk_cell Kgb0.out 0).trans rfl), ((blk_cell Kgb0.out 1).trans rfl), ((blk_cell Kgb0.out 2).trans rfl), ((blk_cell Kgb0.out 3).trans rfl), ((blk_cell Kgb1.out 0).trans rfl), ((blk_cell Kgb1.out 1).trans rfl), ((blk_cell Kgb1.out 2).trans rfl), ((blk_cell Kgb1.out 3).trans rfl), ((blk_cell Kgb1.out 4).trans rfl), ((blk_cell Kgb1.out 5).trans rfl), ((blk_cell Kgb1.out 6).trans rfl), ((blk_cell Kgb1.out 7).trans rfl), ((blk_cell Kgb1.out 8).trans rfl)⟩ (fun hHeld => ?_)
        clear hK K
        refine norm_ (a' := ?_) ?_ ?_
        rotate_left
        · show Act.put _ (some 98) _ = _
          simp only [Act.put, List.setIfInBounds_toArray, List.set_cons_zero, List.set_cons_succ, i64_w, i32_w]
          rfl
        refine one_ (i := 4) (N := some 99) #[true, true, true, true, true, false, false, false, true, false, false] rfl rfl (by kernel_rfl) (by decide) (fun K hK => ?_)
        refine goes_ Try.func49 (by kernel_rfl) rfl #[.agg #[.int .i64 x0_0, .int .i64 x0_1, .int .i64 x0_2, .slice At0 x0_3.length ct0], .agg #[.int .i64 x1_0, .int .i64 x1_1, .int .i64 x1_2, .slice At1 x1_3.length ct1, .int .i64 x1_4, .int .i64 x1_5, .int .i64 x1_6, .int .i64 x1_7, .bool x1_8]] (by rfl) rfl rfl (by simp only [List.map_toArray, List.map_cons, List.map_nil]; rfl) ?_
        with_reducible refine (impl_CoverImage.calls x0_0 x0_1 x0_2 At0 ct0 x0_3 x1_0 x1_1 x1_2 At1 ct1 x1_3 x1_4 x1_5 x1_6 x1_7 x1_8 v0 v1 v2 v3 vok _ HT_0.out HL_0.out HT_1.out HL_1.out HIM.out).mono ?_
        rintro e w41 ⟨vw_, rfl, hr_, hb_⟩
        refine ⟨_, rfl, ?_⟩
        have HZp_ := HZh
        have HBp_ := HB
        replace HB := Aside0.mk (below_then HB.out HB.out.size hb_)
        replace Kgb0 := Aside0.mk (blk_below Kgb0.out hb_)
        replace Kgb1 := Aside0.mk (blk_below Kgb1.out hb_)
        replace Kgw := Aside0.mk (blk_below Kgw.out hb_)
        replace Kgg := Aside0.mk (blk_below Kgg.out hb_)
        replace Rw := Aside0.mk (Kd.R_below Rw.out hb_)
        replace Rg := Aside0.mk (Kd.R_below Rg.out hb_)
        replace HT_0 := Aside0.mk (Kd.C_below HT_0.out hb_)
        replace HT_1 := Aside0.mk (Kd.C_below HT_1.out hb_)
        replace KA_ := Aside0.mk (blk_below KA_.out hb_)
        replace HZh := Aside0.mk (Nat.le_trans HZh.out hb_.size)
        have Rh := Aside0.mk (Kd.R_lower (Kd.R_mono (Kd.R_bound hr_) (fun k_ hk_ => (⟨Nat.le_trans HZp_.out hk_.2.1, hk_.2.2.1⟩ : w31.heap.size ≤ k_ ∧ k_ < w41.heap.size))) HBp_.out.size)
        clear hr_ hb_ HZp_ HBp_
        refine hK.out _ _ ⟨((blk_cell Kgb0.out 0).trans rfl), ((blk_cell Kgb0.out 1).trans rfl), ((blk_cell Kgb0.out 2).trans rfl), ((blk_cell Kgb0.out 3).trans rfl), ((blk_cell Kgb1.out 0).trans rfl), ((blk_cell Kgb1.out 1).trans rfl), ((blk_cell Kgb1.out 2).trans rfl), ((blk_cell Kgb1.out 3).trans rfl), ((blk_cell Kgb1.out 4).trans rfl), ((blk_cell Kgb1.out 5).trans rfl), ((blk_cell Kgb1.out 6).trans rfl), ((blk_cell Kgb1.out 7).trans rfl), ((blk_cell Kgb1.out 8).trans rfl)⟩ (fun hHeld => ?_)
        clear hK K
        refine norm_ (a' := ?_) ?_ ?_
        rotate_left
        · show Act.put _ (some 99) _ = _
          simp only [Act.put, List.setIfInBounds_toArray, List.set_cons_zero, List.set_cons_succ, i64_w, i32_w]
          rfl
        refine pure_ (i := 5) (N := some 94) (v := ?_) (a' := ?_) #[true, true, true, true, true, true, false, false, true, false, false] rfl rfl (by kernel_rfl) (fun _ _ _ h => h) (Or.inl ⟨by rfl, ?_⟩) ?_ ?_
        rotate_left
        · intro w'
          go_simp
          with_reducible rfl
        rotate_left
        · simp only [Act.put, List.setIfInBounds_toArray, List.set_cons_zero, List.set_cons_succ, i64_w, i32_w]
          rfl
        refine pure_ (i := 6) (N := some 100) (v := ?_) (a' := ?_) #[true, true, true, true, true, true, true, false, true, false, false] rfl rfl (by kernel_rfl) (fun _ _ _ h => h) (Or.inl ⟨by rfl, ?_⟩) ?_ ?_
        rotate_left
        · intro w'
          go_simp
          with_reducible rfl
        rotate_left
        · simp only [Act.put, List.setIfInBounds_toArray, List.set_cons_zero, List.set_cons_succ, i64_w, i32_w]
          rfl
        refine pure_ (i := 7) (N := some 101) (v := ?_) (a' := ?_) #[true, true, true, true, true, true, true, true, true, false, false] rfl rfl (by kernel_rfl) (fun _ _ _ h => h) (Or.inl ⟨by rfl, ?_⟩) ?_ ?_
        rotate_left
        · intro w'
          go_simp
          with_reducible rfl
        rotate_left
        · simp only [Act.put, List.setIfInBounds_toArray, List.set_cons_zero, List.set_cons_succ, i64_w, i32_w]
          rfl
        exact norm_ (by first | (simp only [putAll, Act.put, List.setIfInBounds_toArray, List.set_cons_zero, List.set_cons_succ]; done) | (simp only [putAll, Act.put, List.setIfInBounds_toArray, List.set_cons_zero, List.set_cons_succ]; rfl)) (hCont (.slice At0 x0_3.length ct0, .slice At1 x1_3.length ct1, vw_, w33.heap.size) _ ⟨Rh.out, KA_.out, GA_.out, Kgb0.out, Kgb1.out, Kgw.out, Kgg.out, Rw.out, Rg.out, HB.out, HZh.out⟩)
    · skip
      refine value_ (w1 := ?_) (v := ?_) (by rfl) rfl ?_ ?_
      rotate_left 2
      · go_simp
        constructor
        · rfl
        · rfl
      replace HB := Aside0.mk (below_alloc HB.out (.cells #[.int .i64 0, .int .i64 0, .int .i64 0, .slice none 0 0] 27))
      replace Kgb0 := Aside0.mk (blk_alloc Kgb0.out (.cells #[.int .i64 0, .int .i64 0, .int .i64 0, .slice none 0 0] 27))
      replace Kgb1 := Aside0.mk (blk_alloc Kgb1.out (.cells #[.int .i64 0, .int .i64 0, .int .i64 0, .slice none 0 0] 27))
      replace Kgw := Aside0.mk (blk_alloc Kgw.out (.cells #[.int .i64 0, .int .i64 0, .int .i64 0, .slice none 0 0] 27))
      replace Kgg := Aside0.mk (blk_alloc Kgg.out (.cells #[.int .i64 0, .int .i64 0, .int .i64 0, .slice none 0 0] 27))
      replace Rw := Aside0.mk (Kd.R_alloc Rw.out (.cells #[.int .i64 0, .int .i64 0, .int .i64 0, .slice none 0 0] 27))
      replace Rg := Aside0.mk (Kd.R_alloc Rg.out (.cells #[.int .i64 0, .int .i64 0, .int .i64 0, .slice none 0 0] 27))
      have KA_ := Aside0.mk (blk_new w31.drew (.cells #[.int .i64 0, .int .i64 0, .int .i64 0, .slice none 0 0] 27 (0, 0)))
      have GA_ := HZh
      replace HZh := Aside0.mk (Nat.le_trans HZh.out (below_alloc (Below.refl _ _) (.cells #[.int .i64 0, .int .i64 0, .int .i64 0, .slice none 0 0] 27)).size)
      refine hK.out _ _ ⟨((blk_cell Kgb0.out 0).trans rfl), ((blk_cell Kgb0.out 1).trans rfl), ((blk_cell Kgb0.out 2).trans rfl), ((blk_cell Kgb0.out 3).trans rfl), ((blk_cell Kgb1.out 0).trans rfl), ((blk_cell Kgb1.out 1).trans rfl), ((blk_cell Kgb1.out 2).trans rfl), ((blk_cell Kgb1.out 3).trans rfl), ((blk_cell Kgb1.out 4).trans rfl), ((blk_cell Kgb1.out 5).trans rfl), ((blk_cell Kgb1.out 6).trans rfl), ((blk_cell Kgb1.out 7).trans rfl), ((blk_cell Kgb1.out 8).trans rfl)⟩ (fun hHeld => ?_)
      clear hK K
      refine norm_ (a' := ?_) ?_ ?_
      rotate_left
      · show Act.put _ (some 15) _ = _
        simp only [Act.put, List.setIfInBounds_toArray, List.set_cons_zero, List.set_cons_succ, i64_w, i32_w]
        rfl
      refine one_ (i := 1) (N := some 96) #[true, true, true, false, false, false, false, false, true, false, false] rfl rfl (by kernel_rfl) (by decide) (fun K hK => ?_)
      refine goes_ Try.func22 (by kernel_rfl) rfl #[.agg #[.int .i64 a0_0, .int .i64 a0_1, .int .i64 a0_2, .slice A0_3 l0_3.length c0_3]] (by rfl) rfl rfl (by simp only [List.map_toArray, List.map_cons, List.map_nil]; rfl) ?_
      refine (laws_toImage.calls k a0_0 a0_1 a0_2 A0_3 c0_3 l0_3 x0_0 x0_1 x0_2 x0_3 _ (Kd.C_below HR0.out HB.out) HC0.out HT0.out).mono ?_
      rintro e w43 ⟨vt_, rfl, hr_, hb_⟩
      refine ⟨_, rfl, ?_⟩
      replace HB := Aside0.mk (below_then HB.out HB.out.size hb_)
      replace Kgb0 := Aside0.mk (blk_below Kgb0.out hb_)
      replace Kgb1 := Aside0.mk (blk_below Kgb1.out hb_)
      replace Kgw := Aside0.mk (blk_below Kgw.out hb_)
      replace Kgg := Aside0.mk (blk_below Kgg.out hb_)
      replace Rw := Aside0.mk (Kd.R_below Rw.out hb_)
      replace Rg := Aside0.mk (Kd.R_below Rg.out hb_)
      replace KA_ := Aside0.mk (blk_below KA_.out hb_)
      replace HZh := Aside0.mk (Nat.le_trans HZh.out hb_.size)
      obtain ⟨At0, ct0, rfl, hl_, hC_⟩ := Kd.R_reads hr_
      have HT_0 := Aside0.mk hC_
      have HL_0 := Aside0.mk hl_
      clear hr_ hb_ hl_ hC_
      refine hK.out _ _ ⟨((blk_cell Kgb0.out 0).trans rfl), ((blk_cell Kgb0.out 1).trans rfl), ((blk_cell Kgb0.out 2).trans rfl), ((blk_cell Kgb0.out 3).trans rfl), ((blk_cell Kgb1.out 0).trans rfl), ((blk_cell Kgb1.out 1).trans rfl), ((blk_cell Kgb1.out 2).trans rfl), ((blk_cell Kgb1.out 3).trans rfl), ((blk_cell Kgb1.out 4).trans rfl), ((blk_cell Kgb1.out 5).trans rfl), ((blk_cell Kgb1.out 6).trans rfl), ((blk_cell Kgb1.out 7).trans rfl), ((blk_cell Kgb1.out 8).trans rfl)⟩ (fun hHeld => ?_)
      clear hK K
      refine norm_ (a' := ?_) ?_ ?_
      rotate_left
      · show Act.put _ (some 96) _ = _
        simp only [Act.put, List.setIfInBounds_toArray, List.set_cons_zero, List.set_cons_succ, i64_w, i32_w]
        rfl
      refine one_ (i := 3) (N := some 98) #[true, true, true, true, false, false, false, false, true, false, false] rfl rfl (by kernel_rfl) (by decide) (fun K hK => ?_)
      refine goes_ Try.func41 (by kernel_rfl) rfl #[.agg #[.int .i64 a1_0, .int .i64 a1_1, .int .i64 a1_2, .slice A1_3 l1_3.length c1_3, .int .i64 a1_4, .int .i64 a1_5, .int .i64 a1_6, .int .i64 a1_7, .bool a1_8]] (by rfl) rfl rfl (by simp only [List.map_toArray, List.map_cons, List.map_nil]; rfl) ?_
      with_reducible refine (laws_toLayer.calls k a1_0 a1_1 a1_2 A1_3 c1_3 l1_3 a1_4 a1_5 a1_6 a1_7 a1_8 x1_0 x1_1 x1_2 x1_3 x1_4 x1_5 x1_6 x1_7 x1_8 _ (Kd.C_below HR1.out HB.out) HC1.out HT1.out).mono ?_
      rintro e w44 ⟨vt_, rfl, hr_, hb_⟩
      refine ⟨_, rfl, ?_⟩
      replace HB := Aside0.mk (below_then HB.out HB.out.size hb_)
      replace Kgb0 := Aside0.mk (blk_below Kgb0.out hb_)
      replace Kgb1 := Aside0.mk (blk_below Kgb1.out hb_)
      replace Kgw := Aside0.mk (blk_below Kgw.out hb_)
      replace Kgg := Aside0.mk (blk_below Kgg.out hb_)
      replace Rw := Aside0.mk (Kd.R_below Rw.out hb_)
      replace Rg := Aside0.mk (Kd.R_below Rg.out hb_)
      replace HT_0 := Aside0.mk (Kd.C_below HT_0.out hb_)
      replace KA_ := Aside0.mk (blk_below KA_.out hb_)
      replace HZh := Aside0.mk (Nat.le_trans HZh.out hb_.size)
      obtain ⟨At1, ct1, rfl, hl_, hC_⟩ := Kd.R_reads hr_
      have HT_1 := Aside0.mk hC_
      have HL_1 := Aside0.mk hl_
      clear hr_ hb_ hl_ hC_
      refine hK.out _ _ ⟨((blk_cell Kgb0.out 0).trans rfl), ((blk_cell Kgb0.out 1).trans rfl), ((blk_cell Kgb0.out 2).trans rfl), ((blk_cell Kgb0.out 3).trans rfl), ((blk_cell Kgb1.out 0).trans rfl), ((blk_cell Kgb1.out 1).trans rfl), ((blk_cell Kgb1.out 2).trans rfl), ((blk_cell Kgb1.out 3).trans rfl), ((blk_cell Kgb1.out 4).trans rfl), ((blk_cell Kgb1.out 5).trans rfl), ((blk_cell Kgb1.out 6).trans rfl), ((blk_cell Kgb1.out 7).trans rfl), ((blk_cell Kgb1.out 8).trans rfl)⟩ (fun hHeld => ?_)
      clear hK K
      refine norm_ (a' := ?_) ?_ ?_
      rotate_left
      · show Act.put _ (some 98) _ = _
        simp only [Act.put, List.setIfInBounds_toArray, List.set_cons_zero, List.set_cons_succ, i64_w, i32_w]
        rfl
      refine one_ (i := 4) (N := some 99) #[true, true, true, true, true, false, false, false, true, false, false] rfl rfl (by kernel_rfl) (by decide) (fun K hK => ?_)
      refine goes_ Try.func49 (by kernel_rfl) rfl #[.agg #[.int .i64 x0_0, .int .i64 x0_1, .int .i64 x0_2, .slice At0 x0_3.length ct0], .agg #[.int .i64 x1_0, .int .i64 x1_1, .int .i64 x1_2, .slice At1 x1_3.length ct1, .int .i64 x1_4, .int .i64 x1_5, .int .i64 x1_6, .int .i64 x1_7, .bool x1_8]] (by rfl) rfl rfl (by simp only [List.map_toArray, List.map_cons, List.map_nil]; rfl) ?_
      with_reducible refine (impl_CoverImage.calls x0_0 x0_1 x0_2 At0 ct0 x0_3 x1_0 x1_1 x1_2 At1 ct1 x1_3 x1_4 x1_5 x1_6 x1_7 x1_8 v0 v1 v2 v3 vok _ HT_0.out HL_0.out HT_1.out HL_1.out HIM.out).mono ?_
      rintro e w45 ⟨vw_, rfl, hr_, hb_⟩
      refine ⟨_, rfl, ?_⟩
      have HZp_ := HZh
      have HBp_ := HB
      replace HB := Aside0.mk (below_then HB.out HB.out.size hb_)
      replace Kgb0 := Aside0.mk (blk_below Kgb0.out hb_)
      replace Kgb1 := Aside0.mk (blk_below Kgb1.out hb_)
      replace Kgw := Aside0.mk (blk_below Kgw.out hb_)
      replace Kgg := Aside0.mk (blk_below Kgg.out hb_)
      replace Rw := Aside0.mk (Kd.R_below Rw.out hb_)
      replace Rg := Aside0.mk (Kd.R_below Rg.out hb_)
      replace HT_0 := Aside0.mk (Kd.C_below HT_0.out hb_)
      replace HT_1 := Aside0.mk (Kd.C_below HT_1.out hb_)
      replace KA_ := Aside0.mk (blk_below KA_.out hb_)
      replace HZh := Aside0.mk (Nat.le_trans HZh.out hb_.size)
      have Rh := Aside0.mk (Kd.R_lower (Kd.R_mono (Kd.R_bound hr_) (fun k_ hk_ => (⟨Nat.le_trans HZp_.out hk_.2.1, hk_.2.2.1⟩ : w31.heap.size ≤ k_ ∧ k_ < w45.heap.size))) HBp_.out.size)
      clear hr_ hb_ HZp_ HBp_
      refine hK.out _ _ ⟨((blk_cell Kgb0.out 0).trans rfl), ((blk_cell Kgb0.out 1).trans rfl), ((blk_cell Kgb0.out 2).trans rfl), ((blk_cell Kgb0.out 3).trans rfl), ((blk_cell Kgb1.out 0).trans rfl), ((blk_cell Kgb1.out 1).trans rfl), ((blk_cell Kgb1.out 2).trans rfl), ((blk_cell Kgb1.out 3).trans rfl), ((blk_cell Kgb1.out 4).trans rfl), ((blk_cell Kgb1.out 5).trans rfl), ((blk_cell Kgb1.out 6).trans rfl), ((blk_cell Kgb1.out 7).trans rfl), ((blk_cell Kgb1.out 8).trans rfl)⟩ (fun hHeld => ?_)
      clear hK K
      refine norm_ (a' := ?_) ?_ ?_
      rotate_left
      · show Act.put _ (some 99) _ = _
        simp only [Act.put, List.setIfInBounds_toArray, List.set_cons_zero, List.set_cons_succ, i64_w, i32_w]
        rfl
      refine pure_ (i := 5) (N := some 94) (v := ?_) (a' := ?_) #[true, true, true, true, true, true, false, false, true, false, false] rfl rfl (by kernel_rfl) (fun _ _ _ h => h) (Or.inl ⟨by rfl, ?_⟩) ?_ ?_
      rotate_left
      · intro w'
        go_simp
        with_reducible rfl
      rotate_left
      · simp only [Act.put, List.setIfInBounds_toArray, List.set_cons_zero, List.set_cons_succ, i64_w, i32_w]
        rfl
      refine pure_ (i := 6) (N := some 100) (v := ?_) (a' := ?_) #[true, true, true, true, true, true, true, false, true, false, false] rfl rfl (by kernel_rfl) (fun _ _ _ h => h) (Or.inl ⟨by rfl, ?_⟩) ?_ ?_
      rotate_left
      · intro w'
        go_simp
        with_reducible rfl
      rotate_left
      · simp only [Act.put, List.setIfInBounds_toArray, List.set_cons_zero, List.set_cons_succ, i64_w, i32_w]
        rfl
      refine pure_ (i := 7) (N := some 101) (v := ?_) (a' := ?_) #[true, true, true, true, true, true, true, true, true, false, false] rfl rfl (by kernel_rfl) (fun _ _ _ h => h) (Or.inl ⟨by rfl, ?_⟩) ?_ ?_
      rotate_left
      · intro w'
        go_simp
        with_reducible rfl
      rotate_left
      · simp only [Act.put, List.setIfInBounds_toArray, List.set_cons_zero, List.set_cons_succ, i64_w, i32_w]
        rfl
      exact norm_ (by first | (simp only [putAll, Act.put, List.setIfInBounds_toArray, List.set_cons_zero, List.set_cons_succ]; done) | (simp only [putAll, Act.put, List.setIfInBounds_toArray, List.set_cons_zero, List.set_cons_succ]; rfl)) (hCont (.slice At0 x0_3.length ct0, .slice At1 x1_3.length ct1, vw_, w31.drew.heap.size) _ ⟨Rh.out, KA_.out, GA_.out, Kgb0.out, Kgb1.out, Kgw.out, Kgg.out, Rw.out, Rg.out, HB.out, HZh.out⟩)
  rintro ⟨vt0_h, vt1_h, vvh, gh⟩ w32 ⟨hR_, hA_, hg_, hk_0, hk_1, hk_2, hk_3, hr_0, hr_1, hB_, hZ_⟩
  dsimp only at hR_ hA_ hg_
  obtain ⟨Ah, ch, ev_⟩ := Kd.R_slice hR_
  subst ev_
  have Rh := Aside0.mk hR_
  have Kgh := Aside0.mk hA_
  have Zgh := Aside0.mk hg_
  have HB := Aside0.mk hB_
  have HZh := Aside0.mk hZ_
  have Kgb0 := Aside0.mk hk_0
  have Kgb1 := Aside0.mk hk_1
  have Kgw := Aside0.mk hk_2
  have Kgg := Aside0.mk hk_3
  have Rw := Aside0.mk hr_0
  have Rg := Aside0.mk hr_1
  clear hR_ hA_ hg_ hB_ hZ_ hk_0 hk_1 hk_2 hk_3 hr_0 hr_1
  have hHeld : w32.cell? ⟨gb0, 0, none⟩ = some (.int .i64 a0_0) ∧ w32.cell? ⟨gb0, 1, none⟩ = some (.int .i64 a0_1) ∧ w32.cell? ⟨gb0, 2, none⟩ = some (.int .i64 a0_2) ∧ w32.cell? ⟨gb0, 3, none⟩ = some (.slice A0_3 l0_3.length c0_3) ∧ w32.cell? ⟨gb1, 0, none⟩ = some (.int .i64 a1_0) ∧ w32.cell? ⟨gb1, 1, none⟩ = some (.int .i64 a1_1) ∧ w32.cell? ⟨gb1, 2, none⟩ = some (.int .i64 a1_2) ∧ w32.cell? ⟨gb1, 3, none⟩ = some (.slice A1_3 l1_3.length c1_3) ∧ w32.cell? ⟨gb1, 4, none⟩ = some (.int .i64 a1_4) ∧ w32.cell? ⟨gb1, 5, none⟩ = some (.int .i64 a1_5) ∧ w32.cell? ⟨gb1, 6, none⟩ = some (.int .i64 a1_6) ∧ w32.cell? ⟨gb1, 7, none⟩ = some (.int .i64 a1_7) ∧ w32.cell? ⟨gb1, 8, none⟩ = some (.bool a1_8) := ⟨((blk_cell Kgb0.out 0).trans rfl), ((blk_cell Kgb0.out 1).trans rfl), ((blk_cell Kgb0.out 2).trans rfl), ((blk_cell Kgb0.out 3).trans rfl), ((blk_cell Kgb1.out 0).trans rfl), ((blk_cell Kgb1.out 1).trans rfl), ((blk_cell Kgb1.out 2).trans rfl), ((blk_cell Kgb1.out 3).trans rfl), ((blk_cell Kgb1.out 4).trans rfl), ((blk_cell Kgb1.out 5).trans rfl), ((blk_cell Kgb1.out 6).trans rfl), ((blk_cell Kgb1.out 7).trans rfl), ((blk_cell Kgb1.out 8).trans rfl)⟩
  refine norm_ (a' := ?_) ?_ ?_
  rotate_left
  · simp only [putAll, Act.put, List.setIfInBounds_toArray, List.set_cons_zero, List.set_cons_succ]
    rfl
  refine one_ (i := 9) (N := none) #[true, true, true, true, true, true, true, true, true, true, false] rfl rfl (by kernel_rfl) (by decide) (fun K hK => ?_)
  have qgh0 := blk_frozen Kgh.out 0
  have qgh1 := blk_frozen Kgh.out 1
  have qgh2 := blk_frozen Kgh.out 2
  have qgh3 := blk_frozen Kgh.out 3
  have cgh0 := (blk_cell Kgh.out 0).trans rfl
  have cgh1 := (blk_cell Kgh.out 1).trans rfl
  have cgh2 := (blk_cell Kgh.out 2).trans rfl
  have cgh3 := (blk_cell Kgh.out 3).trans rfl
  refine skip_ (w1 := ?_) (by rfl) rfl ?_ ?_
  rotate_left
  · go_simp
    rfl
  clear qgh0 cgh0 qgh1 cgh1 qgh2 cgh2 qgh3 cgh3
  have Kgb0_ := Aside0.mk (blk_far (p := ⟨gh, 3, none⟩) (blk_far (p := ⟨gh, 2, none⟩) (blk_far (p := ⟨gh, 1, none⟩) (blk_far (p := ⟨gh, 0, none⟩) Kgb0.out (show gb0 ≠ gh by have := Zgh.out; have := QKgb0.out; omega) (.int .i64 v0)) (show gb0 ≠ gh by have := Zgh.out; have := QKgb0.out; omega) (.int .i64 v1)) (show gb0 ≠ gh by have := Zgh.out; have := QKgb0.out; omega) (.int .i64 v2)) (show gb0 ≠ gh by have := Zgh.out; have := QKgb0.out; omega) (.slice Ah v3.length ch))
  have Kgb1_ := Aside0.mk (blk_far (p := ⟨gh, 3, none⟩) (blk_far (p := ⟨gh, 2, none⟩) (blk_far (p := ⟨gh, 1, none⟩) (blk_far (p := ⟨gh, 0, none⟩) Kgb1.out (show gb1 ≠ gh by have := Zgh.out; have := QKgb1.out; omega) (.int .i64 v0)) (show gb1 ≠ gh by have := Zgh.out; have := QKgb1.out; omega) (.int .i64 v1)) (show gb1 ≠ gh by have := Zgh.out; have := QKgb1.out; omega) (.int .i64 v2)) (show gb1 ≠ gh by have := Zgh.out; have := QKgb1.out; omega) (.slice Ah v3.length ch))
  have Kgw_ := Aside0.mk (blk_far (p := ⟨gh, 3, none⟩) (blk_far (p := ⟨gh, 2, none⟩) (blk_far (p := ⟨gh, 1, none⟩) (blk_far (p := ⟨gh, 0, none⟩) Kgw.out (show gw ≠ gh by have := Zgh.out; have := QKgw.out; omega) (.int .i64 v0)) (show gw ≠ gh by have := Zgh.out; have := QKgw.out; omega) (.int .i64 v1)) (show gw ≠ gh by have := Zgh.out; have := QKgw.out; omega) (.int .i64 v2)) (show gw ≠ gh by have := Zgh.out; have := QKgw.out; omega) (.slice Ah v3.length ch))
  have Kgg_ := Aside0.mk (blk_far (p := ⟨gh, 3, none⟩) (blk_far (p := ⟨gh, 2, none⟩) (blk_far (p := ⟨gh, 1, none⟩) (blk_far (p := ⟨gh, 0, none⟩) Kgg.out (show gg ≠ gh by have := Zgh.out; have := QKgg.out; omega) (.int .i64 v0)) (show gg ≠ gh by have := Zgh.out; have := QKgg.out; omega) (.int .i64 v1)) (show gg ≠ gh by have := Zgh.out; have := QKgg.out; omega) (.int .i64 v2)) (show gg ≠ gh by have := Zgh.out; have := QKgg.out; omega) (.slice Ah v3.length ch))
  refine hK.out _ _ ⟨((blk_cell Kgb0_.out 0).trans rfl), ((blk_cell Kgb0_.out 1).trans rfl), ((blk_cell Kgb0_.out 2).trans rfl), ((blk_cell Kgb0_.out 3).trans rfl), ((blk_cell Kgb1_.out 0).trans rfl), ((blk_cell Kgb1_.out 1).trans rfl), ((blk_cell Kgb1_.out 2).trans rfl), ((blk_cell Kgb1_.out 3).trans rfl), ((blk_cell Kgb1_.out 4).trans rfl), ((blk_cell Kgb1_.out 5).trans rfl), ((blk_cell Kgb1_.out 6).trans rfl), ((blk_cell Kgb1_.out 7).trans rfl), ((blk_cell Kgb1_.out 8).trans rfl)⟩ (fun hHeld => ?_)
  clear hK K
  refine pure_ (i := 10) (N := some 16) (v := ?_) (a' := ?_) #[true, true, true, true, true, true, true, true, true, true, true] rfl rfl (by kernel_rfl) (fun _ _ _ h => h) (Or.inl ⟨by rfl, ?_⟩) ?_ ?_
  rotate_left
  · intro w'
    go_simp
    with_reducible rfl
  rotate_left
  · simp only [Act.put, List.setIfInBounds_toArray, List.set_cons_zero, List.set_cons_succ, i64_w, i32_w]
    rfl
  refine done_ (by kernel_rfl) ?_
  obtain ⟨w46, hw46⟩ : ∃ W, W = ((((w32.setCell ⟨gh, 0, none⟩ (.int .i64 v0)).setCell ⟨gh, 1, none⟩ (.int .i64 v1)).setCell ⟨gh, 2, none⟩ (.int .i64 v2)).setCell ⟨gh, 3, none⟩ (.slice Ah v3.length ch)) := ⟨_, rfl⟩
  rw [← hw46]
  have HGgh := Aside0.mk (Nat.le_trans HB.out.size (Nat.le_refl _))
  replace HB := Aside0.mk (show Below w.heap.size w w46 from by rw [hw46]; exact (below_set (below_set (below_set (below_set HB.out (Nat.le_trans HBSh.out Zgh.out)) (Nat.le_trans HBSh.out Zgh.out)) (Nat.le_trans HBSh.out Zgh.out)) (Nat.le_trans HBSh.out Zgh.out)))
  have NZh := Aside0.mk (show w31.heap.size ≤ w46.heap.size from by rw [hw46]; exact Nat.le_trans HZh.out (by simp [World.setCell]))
  have ZLgh := Aside0.mk (show gh < w46.heap.size from by rw [hw46]; exact Nat.lt_of_lt_of_le (blk_lt Kgh.out) (by simp [World.setCell]))
  replace Rh := Aside0.mk (show Kd.R (Kd.int .i64) 3 w46 w.heap.size (fun k_ => w31.heap.size ≤ k_ ∧ k_ < w46.heap.size) (.slice Ah v3.length ch) v3 from by rw [hw46]; exact Kd.R_mono (Kd.R_far (Kd.R_far (Kd.R_far (Kd.R_far (Kd.R_types Rh.out Kgh.out (by decide)) (fun k hk => hk.2) _) (fun k hk => hk.2) _) (fun k hk => hk.2) _) (fun k hk => hk.2) _) (fun k hk => ⟨hk.1.1, Nat.lt_of_lt_of_le hk.1.2 (by simp [World.setCell])⟩))
  replace Rw := Aside0.mk (show Kd.R (Kd.int .i64) 3 w46 w.heap.size (fun k_ => wz1.heap.size ≤ k_ ∧ k_ < w15.heap.size) (.slice Aw v3.length cw) v3 from by rw [hw46]; exact Kd.R_mono (Kd.R_far (Kd.R_far (Kd.R_far (Kd.R_far (Kd.R_types Rw.out Kgh.out (by decide)) (fun k hk => hk.2) _) (fun k hk => hk.2) _) (fun k hk => hk.2) _) (fun k hk => hk.2) _) (fun k hk => hk.1))
  replace Rg := Aside0.mk (show Kd.R (Kd.int .i64) 3 w46 w.heap.size (fun k_ => 0 ≤ k_ ∧ k_ < w30.heap.size) (.slice Ag u.length cg) u from by rw [hw46]; exact Kd.R_mono (Kd.R_far (Kd.R_far (Kd.R_far (Kd.R_far (Kd.R_types Rg.out Kgh.out (by decide)) (fun k hk => hk.2) _) (fun k hk => hk.2) _) (fun k hk => hk.2) _) (fun k hk => hk.2) _) (fun k hk => hk.1))
  replace Kgb0 := Aside0.mk (show w46.heap[gb0]? = some (.cells #[.int .i64 a0_0, .int .i64 a0_1, .int .i64 a0_2, .slice A0_3 l0_3.length c0_3] 24 (0, 0)) from by rw [hw46]; exact Kgb0_.out)
  replace Kgb1 := Aside0.mk (show w46.heap[gb1]? = some (.cells #[.int .i64 a1_0, .int .i64 a1_1, .int .i64 a1_2, .slice A1_3 l1_3.length c1_3, .int .i64 a1_4, .int .i64 a1_5, .int .i64 a1_6, .int .i64 a1_7, .bool a1_8] 51 (0, 0)) from by rw [hw46]; exact Kgb1_.out)
  replace Kgw := Aside0.mk (show w46.heap[gw]? = some (.cells #[.int .i64 v0, .int .i64 v1, .int .i64 v2, .slice Aw v3.length cw] 27 (0, 0)) from by rw [hw46]; exact Kgw_.out)
  replace Kgg := Aside0.mk (show w46.heap[gg]? = some (.cells #[.int .i64 v0, .int .i64 v1, .int .i64 v2, .slice Ag u.length cg] 27 (0, 0)) from by rw [hw46]; exact Kgg_.out)
  replace Kgh := Aside0.mk (show w46.heap[gh]? = some (.cells #[.int .i64 v0, .int .i64 v1, .int .i64 v2, .slice Ah v3.length ch] 27 (0, 0)) from by rw [hw46]; refine blk_put (cs := #[.int .i64 v0, .int .i64 v1, .int .i64 v2, .slice none 0 0]) ?_ 3 _ rfl; refine blk_put (cs := #[.int .i64 v0, .int .i64 v1, .int .i64 0, .slice none 0 0]) ?_ 2 _ rfl; refine blk_put (cs := #[.int .i64 v0, .int .i64 0, .int .i64 0, .slice none 0 0]) ?_ 1 _ rfl; refine blk_put (cs := #[.int .i64 0, .int .i64 0, .int .i64 0, .slice none 0 0]) ?_ 0 _ rfl; exact Kgh.out)
  clear hw46
  have cghw46_0 : w46.cell? ⟨gh, 0, none⟩ = some (.int .i64 v0) := (blk_cell Kgh.out 0).trans rfl; have cghw46_1 : w46.cell? ⟨gh, 1, none⟩ = some (.int .i64 v1) := (blk_cell Kgh.out 1).trans rfl; have cghw46_2 : w46.cell? ⟨gh, 2, none⟩ = some (.int .i64 v2) := (blk_cell Kgh.out 2).trans rfl; have cghw46_3 : w46.cell? ⟨gh, 3, none⟩ = some (.slice Ah v3.length ch) := (blk_cell Kgh.out 3).trans rfl
  have cgww46_0 : w46.cell? ⟨gw, 0, none⟩ = some (.int .i64 v0) := (blk_cell Kgw.out 0).trans rfl; have cgww46_1 : w46.cell? ⟨gw, 1, none⟩ = some (.int .i64 v1) := (blk_cell Kgw.out 1).trans rfl; have cgww46_2 : w46.cell? ⟨gw, 2, none⟩ = some (.int .i64 v2) := (blk_cell Kgw.out 2).trans rfl; have cgww46_3 : w46.cell? ⟨gw, 3, none⟩ = some (.slice Aw v3.length cw) := (blk_cell Kgw.out 3).trans rfl
  go_upto_region 34 with (first
    | (go_at_call 24; (with_reducible refine (laws_eqImage.calls k v0 v1 v2 Ah ch v3 v0 v1 v2 Aw cw v3 true w46 (Kd.R_reads' Rh.out).2.2 (Kd.R_reads' Rh.out).2.1 (Kd.R_reads' Rw.out).2.2 (Kd.R_reads' Rw.out).2.1 HEV.out rfl).mono ?_); rintro e w47 ⟨rfl, hb⟩; replace HB := Aside0.mk (below_then HB.out HB.out.size hb); replace Kgb0 := Aside0.mk (blk_below Kgb0.out hb); replace Kgb1 := Aside0.mk (blk_below Kgb1.out hb); replace Kgw := Aside0.mk (blk_below Kgw.out hb); replace Kgg := Aside0.mk (blk_below Kgg.out hb); replace Kgh := Aside0.mk (blk_below Kgh.out hb); replace Rw := Aside0.mk (Kd.R_below Rw.out hb); replace Rg := Aside0.mk (Kd.R_below Rg.out hb); replace Rh := Aside0.mk (Kd.R_below Rh.out hb); have Zw47 := Aside0.mk hb.size; clear hb))
  try clear cghw46_0 cghw46_1 cghw46_2 cghw46_3 cgww46_0 cgww46_1 cgww46_2 cgww46_3
  have cggw47_0 : w47.cell? ⟨gg, 0, none⟩ = some (.int .i64 v0) := (blk_cell Kgg.out 0).trans rfl; have cggw47_1 : w47.cell? ⟨gg, 1, none⟩ = some (.int .i64 v1) := (blk_cell Kgg.out 1).trans rfl; have cggw47_2 : w47.cell? ⟨gg, 2, none⟩ = some (.int .i64 v2) := (blk_cell Kgg.out 2).trans rfl; have cggw47_3 : w47.cell? ⟨gg, 3, none⟩ = some (.slice Ag u.length cg) := (blk_cell Kgg.out 3).trans rfl
  go_wp2_with (first
    | (go_at_call 59; (with_reducible refine (laws_heldImage.calls k v0 v1 v2 Ag cg u 1 m w47 (Kd.R_reads' Rg.out).2.2 (Kd.R_reads' Rg.out).2.1 HHR.out).mono ?_); rintro e w48 ⟨rfl, hb⟩; replace HB := Aside0.mk (below_then HB.out HB.out.size hb); replace Kgb0 := Aside0.mk (blk_below Kgb0.out hb); replace Kgb1 := Aside0.mk (blk_below Kgb1.out hb); replace Kgw := Aside0.mk (blk_below Kgw.out hb); replace Kgg := Aside0.mk (blk_below Kgg.out hb); replace Kgh := Aside0.mk (blk_below Kgh.out hb); replace Rw := Aside0.mk (Kd.R_below Rw.out hb); replace Rg := Aside0.mk (Kd.R_below Rg.out hb); replace Rh := Aside0.mk (Kd.R_below Rh.out hb); have Zw48 := Aside0.mk hb.size; clear hb))
  go_ret
  exact ⟨rfl, HB.out⟩
theorem laws_FnExactCoverImage.calls (k : Nat) (a0_0 : Int) (a0_1 : Int) (a0_2 : Int) (A0_3 : Option Addr) (c0_3 : Nat) (l0_3 : List Int) (a1_0 : Int) (a1_1 : Int) (a1_2 : Int) (A1_3 : Option Addr) (c1_3 : Nat) (l1_3 : List Int) (a1_4 : Int) (a1_5 : Int) (a1_6 : Int) (a1_7 : Int) (a1_8 : Bool) (r : Bool) (w : World) (hr0 : Kd.C (Kd.int .i64) w A0_3 l0_3.length l0_3) (hc0 : l0_3.length ≤ c0_3) (hr1 : Kd.C (Kd.int .i64) w A1_3 l1_3.length l1_3) (hc1 : l1_3.length ≤ c1_3) (h : laws_FnExactCoverImage.f k a0_0 a0_1 a0_2 l0_3 a1_0 a1_1 a1_2 l1_3 a1_4 a1_5 a1_6 a1_7 a1_8 = some r) : Calls Try.prog 10 #[.agg #[.int .i64 a0_0, .int .i64 a0_1, .int .i64 a0_2, .slice A0_3 l0_3.length c0_3], .agg #[.int .i64 a1_0, .int .i64 a1_1, .int .i64 a1_2, .slice A1_3 l1_3.length c1_3, .int .i64 a1_4, .int .i64 a1_5, .int .i64 a1_6, .int .i64 a1_7, .bool a1_8]] w fun e w' => e = .returned (.bool r) ∧ Below w.heap.size w w' := by
  unfold laws_FnExactCoverImage.f at h
  by_cases hg : laws_FnExactCoverImage.Goes k a0_0 a0_1 a0_2 l0_3 a1_0 a1_1 a1_2 l1_3 a1_4 a1_5 a1_6 a1_7 a1_8
  · rw [if_pos hg] at h
    obtain rfl : true = r := Option.some.inj h
    clear h
    unfold laws_FnExactCoverImage.Goes at hg
    rcases hg with ⟨s0, hs0, hn0⟩ | ⟨s0, s1, hs0, hn0, hs1, hn1⟩ | ⟨s0, s1, x0_0, x0_1, x0_2, x0_3, x1_0, x1_1, x1_2, x1_3, x1_4, x1_5, x1_6, x1_7, x1_8, v0, v1, v2, v3, vok, k0, y0, k1, y1, m, u, HS0, HN0, HS1, HN1, HT0, HT1, HSP, HIM, HEV, HE0, HE1, HM0, HM1, HKN, HMR, HHR, HMN⟩
    · exact laws_FnExactCoverImage.big0 k a0_0 a0_1 a0_2 A0_3 c0_3 l0_3 a1_0 a1_1 a1_2 A1_3 c1_3 l1_3 a1_4 a1_5 a1_6 a1_7 a1_8 w hr0 hc0 hr1 hc1 s0 hs0 hn0
    · exact laws_FnExactCoverImage.big1 k a0_0 a0_1 a0_2 A0_3 c0_3 l0_3 a1_0 a1_1 a1_2 A1_3 c1_3 l1_3 a1_4 a1_5 a1_6 a1_7 a1_8 w hr0 hc0 hr1 hc1 s0 s1 hs0 hn0 hs1 hn1
    · exact laws_FnExactCoverImage.way k a0_0 a0_1 a0_2 A0_3 c0_3 l0_3 a1_0 a1_1 a1_2 A1_3 c1_3 l1_3 a1_4 a1_5 a1_6 a1_7 a1_8 w hr0 hc0 hr1 hc1 s0 s1 x0_0 x0_1 x0_2 x0_3 x1_0 x1_1 x1_2 x1_3 x1_4 x1_5 x1_6 x1_7 x1_8 v0 v1 v2 v3 vok k0 y0 k1 y1 m u HS0 HN0 HS1 HN1 HT0 HT1 HSP HIM HEV HE0 HE1 HM0 HM1 HKN HMR HHR HMN
  · rw [if_neg hg] at h; cases h
end Go.Proofs.Ytnofkbbcbpjhfaa.Q

/- What an argument's reading as data tells: numbers, bools, slices and structs of them, by their kinds. -/
namespace Go.Proofs.Ytnofkbbcbpjhfaa.Q
open Go.RowKit Go.Proofs.YtnofkbbcbpjhfaaW.PrintWords Go.Proofs.YtnofkbbcbpjhfaaW.PrintLast Go.Proofs.YtnofkbbcbpjhfaaW.PrintMore
attribute [local go_sem] max2_int min2_int max_two min_two max_three min_three max_four min_four
set_option linter.unusedVariables false
set_option linter.unusedSimpArgs false
open Go.ChangeShapes Go.WideShapes Go.Deep

/-- A number of 64 bits. -/
def I64 (n : Int) : Prop := -9223372036854775808 ≤ n ∧ n ≤ 9223372036854775807
theorem i64_of (n : Int) (h : (Lit.int .i64 n).wf = true) : I64 n := by
  simp only [Lit.wf, Bool.and_eq_true, decide_eq_true_eq] at h
  have e1 : IntKind.min .i64 = -9223372036854775808 := by decide
  have e2 : IntKind.max .i64 = 9223372036854775807 := by decide
  unfold I64
  omega
/-- Whatever reads at type t as data is a y of this kind, of which Q holds. -/
def Opens {α : Type} (P : Program) (t : TypeId) (d : Kd α) (Q : α → Prop) : Prop :=
  ∀ (H : Type) (enc : TypeId × Value → H) (w : World) (fuel : Nat) (cs : List Value) (x : DataW H × List MemPlace),
    DataW.trod enc P w 0 (fun _ => true) true fuel t cs = some x → ∃ y : α, d.K w y cs ∧ Q y
section
variable {P : Program} {t : TypeId} {α β : Type}
theorem opens_i64 (ht : P.underlying t = some (.int .i64)) : Opens P t (Kd.int .i64) I64 := by
  intro H enc w fuel cs x h
  obtain ⟨n, rfl, _, hw⟩ := DataW.trod_int ht h
  exact ⟨n, rfl, i64_of n hw⟩
theorem opens_bool (ht : P.underlying t = some .bool) : Opens P t Kd.bool (fun _ => True) := by
  intro H enc w fuel cs x h
  obtain ⟨b, rfl, _⟩ := DataW.trod_bool ht h
  exact ⟨b, rfl, trivial⟩
theorem opens_slice {e : TypeId} {d : Kd α} {Q : α → Prop} (ht : P.underlying t = some (.slice e)) (hc : P.cellsOf e = d.sz) (ho : Opens P e d Q) :
    Opens P t (Kd.slice e d) (fun l => ∀ x ∈ l, Q x) := by
  intro H enc w fuel cs x h
  rcases open_slice ht h with ⟨rfl, _⟩ | ⟨a, len, cap, m, n, D, Pl, rfl, _, hl, hm, hmm, _, hi⟩
  · exact ⟨[], ⟨none, 0, rfl, Nat.le_refl _, rfl, by simp, fun h0 => absurd h0 (by simp)⟩, fun x hx => absurd hx (by simp)⟩
  · have hmc : m = cap := by simpa using hmm
    subst hmc
    have each : ∀ i, i < len → ∃ y : α, (∃ c, c.length = d.sz ∧ d.K w y c ∧ ∀ j u, c[j]? = some u → w.cell? (a.add (i * d.sz + j)) = some u) ∧ Q y := by
      intro i hil
      obtain ⟨cs', hcs, htr⟩ := hi i (by omega)
      rw [hc] at hcs
      obtain ⟨_, hcl, hat⟩ := World.cells?_some hcs
      obtain ⟨y, hK, hQ⟩ := ho H enc w n cs' _ htr
      refine ⟨y, ⟨cs', hcl, hK, fun j u hu => ?_⟩, hQ⟩
      have hj : j < d.sz := by rw [← hcl]; exact (List.getElem?_eq_some_iff.1 hu).1
      rw [← Go.Deep.add_add, hat j hj, hu]
    have hY : ∃ ys : List α, ys.length = len ∧ ∀ i, i < len → ∃ y, ys[i]? = some y ∧ (∃ c, c.length = d.sz ∧ d.K w y c ∧ ∀ j u, c[j]? = some u → w.cell? (a.add (i * d.sz + j)) = some u) ∧ Q y := by
      have key : ∀ q, q ≤ len → ∃ ys : List α, ys.length = q ∧ ∀ i, i < q → ∃ y, ys[i]? = some y ∧ (∃ c, c.length = d.sz ∧ d.K w y c ∧ ∀ j u, c[j]? = some u → w.cell? (a.add (i * d.sz + j)) = some u) ∧ Q y := by
        intro q
        induction q with
        | zero => intro _; exact ⟨[], rfl, fun i hi' => absurd hi' (by omega)⟩
        | succ q ih =>
          intro hq
          obtain ⟨ys, hyl, hys⟩ := ih (by omega)
          obtain ⟨y, hy⟩ := each q (by omega)
          refine ⟨ys ++ [y], by simp [hyl], fun i hi' => ?_⟩
          by_cases e : i = q
          · subst e
            exact ⟨y, by rw [List.getElem?_append_right (by omega)]; simp [hyl], hy⟩
          · obtain ⟨z, hz, hz2⟩ := hys i (by omega)
            exact ⟨z, by rw [List.getElem?_append_left (by omega)]; exact hz, hz2⟩
      exact key len (Nat.le_refl _)
    obtain ⟨ys, hyl, hys⟩ := hY
    refine ⟨ys, ⟨some a, m, by rw [hyl], by omega, rfl, by rw [hyl]; simp only [maxLen] at hm; omega, fun _ => ⟨a, rfl, fun j p hj => ?_⟩⟩, fun x hx => ?_⟩
    · have hjl : j < len := by rw [← hyl]; exact (List.getElem?_eq_some_iff.1 hj).1
      obtain ⟨y, hy, hc2, _⟩ := hys j hjl
      rw [hy] at hj
      obtain rfl := Option.some.inj hj
      exact hc2
    · obtain ⟨j, hj, rfl⟩ := List.getElem_of_mem hx
      obtain ⟨y, hy, _, hq⟩ := hys j (by omega)
      rw [List.getElem?_eq_getElem hj] at hy
      obtain rfl := Option.some.inj hy
      exact hq
/-- Fields in line, from the cell 'off' on. -/
def OpensF (P : Program) (fs : List Field) (off : Nat) (d : Kd α) (Q : α → Prop) : Prop :=
  ∀ (H : Type) (enc : TypeId × Value → H) (w : World) (n : Nat) (cs : List Value), cs.length = off + d.sz →
    (∀ f ∈ fs, ∃ x, DataW.trod enc P w 0 (fun _ => true) true n f.type ((cs.drop f.offset).take (P.cellsOf f.type)) = some x) → ∃ y : α, d.K w y (cs.drop off) ∧ Q y
theorem opensF_one {f : Field} {off : Nat} {d : Kd α} {Q : α → Prop} (ho : f.offset = off) (hc : P.cellsOf f.type = d.sz) (h : Opens P f.type d Q) : OpensF P [f] off d Q := by
  intro H enc w n cs hl hf
  obtain ⟨x, hx⟩ := hf f (by simp)
  rw [ho, hc, List.take_of_length_le (by rw [List.length_drop]; omega)] at hx
  exact h H enc w n _ _ hx
theorem opensF_cons {f : Field} {fs : List Field} {off : Nat} {d : Kd α} {Q : α → Prop} {d' : Kd β} {Q' : β → Prop} (ho : f.offset = off) (hc : P.cellsOf f.type = d.sz) (h : Opens P f.type d Q) (h' : OpensF P fs (off + d.sz) d' Q') :
    OpensF P (f :: fs) off (Kd.pair d d') (fun p => Q p.1 ∧ Q' p.2) := by
  intro H enc w n cs hl hf
  have hl' : cs.length = off + (d.sz + d'.sz) := hl
  obtain ⟨x, hx⟩ := hf f (by simp)
  rw [ho, hc] at hx
  obtain ⟨y, hK, hQ⟩ := h H enc w n _ _ hx
  obtain ⟨y', hK', hQ'⟩ := h' H enc w n cs (by omega) (fun g hg => hf g (by simp [hg]))
  refine ⟨(y, y'), ⟨(cs.drop off).take d.sz, cs.drop (off + d.sz), ?_, hK, hK'⟩, hQ, hQ'⟩
  rw [← List.drop_drop, List.take_append_drop]
theorem opens_struct {fs : Array Field} {d : Kd α} {Q : α → Prop} (ht : P.underlying t = some (.struct fs)) (hc : P.cellsOf t = d.sz) (h : OpensF P fs.toList 0 d Q) : Opens P t d Q := by
  intro H enc w fuel cs x hx
  obtain ⟨xs, n, _, _, hcl, hxl, hg⟩ := DataW.trod_struct ht hx
  obtain ⟨y, hK, hQ⟩ := h H enc w n cs (by omega) (fun f hf => by
    obtain ⟨i, hi, rfl⟩ := List.getElem_of_mem hf
    have hi' : i < fs.size := by simpa using hi
    have h1 := hg i (fs.toList[i]) (by simp [hi'])
    rw [List.getElem?_eq_getElem (by omega)] at h1
    exact ⟨_, h1⟩)
  exact ⟨y, by simpa using hK, hQ⟩
theorem opens_iso {d : Kd α} {Q : α → Prop} (f : β → α) (g : α → β) (hfg : ∀ a, f (g a) = a) (h : Opens P t d Q) : Opens P t (Kd.iso d f) (fun b => Q (f b)) := by
  intro H enc w fuel cs x hx
  obtain ⟨y, hK, hQ⟩ := h H enc w fuel cs x hx
  refine ⟨g y, ?_, ?_⟩
  · show d.K w (f (g y)) cs
    rw [hfg]; exact hK
  · show Q (f (g y))
    rw [hfg]; exact hQ
end
end Go.Proofs.Ytnofkbbcbpjhfaa.Q

/- What is known of structs that came in. -/
namespace Go.Proofs.Ytnofkbbcbpjhfaa.Q
open Go.RowKit Go.Proofs.YtnofkbbcbpjhfaaW.PrintWords Go.Proofs.YtnofkbbcbpjhfaaW.PrintLast Go.Proofs.YtnofkbbcbpjhfaaW.PrintMore
attribute [local go_sem] max2_int min2_int max_two min_two max_three min_three max_four min_four
set_option linter.unusedVariables false
set_option linter.unusedSimpArgs false
def wf24 (x : S24) : Prop := I64 x.f0 ∧ I64 x.f1 ∧ I64 x.f2 ∧ (∀ y ∈ x.f3, I64 y)
theorem o24 : Opens Try.prog 24 k24 wf24 :=
  opens_iso (fun x : S24 => (x.f0, x.f1, x.f2, x.f3)) (fun p => (⟨p.1, p.2.1, p.2.2.1, p.2.2.2⟩ : S24)) (fun _ => rfl) (opens_struct Try.underlying24 (by kernel_rfl) (opensF_cons rfl (by kernel_rfl) (opens_i64 Try.underlying3) (opensF_cons rfl (by kernel_rfl) (opens_i64 Try.underlying3) (opensF_cons rfl (by kernel_rfl) (opens_i64 Try.underlying3) (opensF_one rfl (by kernel_rfl) (opens_slice Try.underlying22 (by kernel_rfl) (opens_i64 Try.underlying3)))))))
def wf51 (x : S51) : Prop := wf24 x.f0 ∧ I64 x.f1 ∧ I64 x.f2 ∧ I64 x.f3 ∧ I64 x.f4 ∧ True
theorem o51 : Opens Try.prog 51 k51 wf51 :=
  opens_iso (fun x : S51 => (x.f0, x.f1, x.f2, x.f3, x.f4, x.f5)) (fun p => (⟨p.1, p.2.1, p.2.2.1, p.2.2.2.1, p.2.2.2.2.1, p.2.2.2.2.2⟩ : S51)) (fun _ => rfl) (opens_struct Try.underlying51 (by kernel_rfl) (opensF_cons rfl (by kernel_rfl) o24 (opensF_cons rfl (by kernel_rfl) (opens_i64 Try.underlying3) (opensF_cons rfl (by kernel_rfl) (opens_i64 Try.underlying3) (opensF_cons rfl (by kernel_rfl) (opens_i64 Try.underlying3) (opensF_cons rfl (by kernel_rfl) (opens_i64 Try.underlying3) (opensF_one rfl (by kernel_rfl) (opens_bool Try.underlying4))))))))
def wf137 (x : S137) : Prop := I64 x.f0 ∧ I64 x.f1 ∧ I64 x.f2 ∧ I64 x.f3
theorem o137 : Opens Try.prog 137 k137 wf137 :=
  opens_iso (fun x : S137 => (x.f0, x.f1, x.f2, x.f3)) (fun p => (⟨p.1, p.2.1, p.2.2.1, p.2.2.2⟩ : S137)) (fun _ => rfl) (opens_struct Try.underlying137 (by kernel_rfl) (opensF_cons rfl (by kernel_rfl) (opens_i64 Try.underlying3) (opensF_cons rfl (by kernel_rfl) (opens_i64 Try.underlying3) (opensF_cons rfl (by kernel_rfl) (opens_i64 Try.underlying3) (opensF_one rfl (by kernel_rfl) (opens_i64 Try.underlying3))))))

/- The statement over plain lists and numbers that is left of the law FnExactCoverImage. -/
def laws_FnExactCoverImage.Pure : Prop := ∀ (a0_0 : Int) (a0_1 : Int) (a0_2 : Int) (l0_3 : List Int) (a1_0 : Int) (a1_1 : Int) (a1_2 : Int) (l1_3 : List Int) (a1_4 : Int) (a1_5 : Int) (a1_6 : Int) (a1_7 : Int) (a1_8 : Bool), I64 a0_0 → I64 a0_1 → I64 a0_2 → (∀ y ∈ l0_3, I64 y) → l0_3.length ≤ 9223372036854775807 → I64 a1_0 → I64 a1_1 → I64 a1_2 → (∀ y ∈ l1_3, I64 y) → l1_3.length ≤ 9223372036854775807 → I64 a1_4 → I64 a1_5 → I64 a1_6 → I64 a1_7 → ∃ k, laws_FnExactCoverImage.f k a0_0 a0_1 a0_2 l0_3 a1_0 a1_1 a1_2 l1_3 a1_4 a1_5 a1_6 a1_7 a1_8 = some true
end Go.Proofs.Ytnofkbbcbpjhfaa.Q

/- Images as pixels: lists of numbers cut into equal parts. -/
namespace Go.Proofs.Ytnofkbbcbpjhfaa.Pure
open Go.RowKit Go.Proofs.Ytnofkbbcbpjhfaa.Q Go.Proofs.YtnofkbbcbpjhfaaW.PrintWords Go.Proofs.YtnofkbbcbpjhfaaW.PrintLast Go.Proofs.YtnofkbbcbpjhfaaW.PrintMore
set_option linter.unusedVariables false
set_option linter.unusedSimpArgs false

/-- part i of a list that is cut into parts of n -/
def nx (n : Nat) (d : List Int) (i : Nat) : List Int := (d.drop (i * n)).take n
theorem nx_length {n m : Nat} {d : List Int} (hd : d.length = m * n) {i : Nat} (hi : i < m) : (nx n d i).length = n := by
  unfold nx
  have h : (i + 1) * n ≤ m * n := Nat.mul_le_mul_right n hi
  rw [Nat.add_mul, Nat.one_mul] at h
  rw [List.length_take, List.length_drop, hd]
  omega
theorem fm_length (f : Nat → List Int) (n : Nat) : ∀ m, (∀ i, i < m → (f i).length = n) → ((List.range m).flatMap f).length = m * n := by
  intro m
  induction m with
  | zero => intro _; simp
  | succ m ih =>
    intro h
    rw [List.range_succ, List.flatMap_append, List.length_append, ih (fun i hi => h i (by omega))]
    simp [h m (by omega), Nat.add_mul]
theorem fm_get (f : Nat → List Int) (n : Nat) : ∀ m, (∀ i, i < m → (f i).length = n) → ∀ i, i < m → nx n ((List.range m).flatMap f) i = f i := by
  intro m
  induction m with
  | zero => intro _ i hi; omega
  | succ m ih =>
    intro h i hi
    have hl := fm_length f n m (fun i hi => h i (by omega))
    rw [List.range_succ, List.flatMap_append]
    unfold nx
    by_cases c : i < m
    · have h1 : (i + 1) * n ≤ m * n := Nat.mul_le_mul_right n c
      rw [Nat.add_mul, Nat.one_mul] at h1
      rw [List.drop_append_of_le_length (by omega), List.take_append_of_le_length (by rw [List.length_drop]; omega)]
      exact ih (fun i hi => h i (by omega)) i c
    · have : i = m := by omega
      subst this
      rw [← hl, List.drop_left]
      simp only [List.flatMap_cons, List.flatMap_nil, List.append_nil]
      exact List.take_of_length_le (by rw [h i (by omega)]; exact Nat.le_refl _)
theorem fm_cut (n : Nat) : ∀ (m : Nat) (d : List Int), d.length = m * n → (List.range m).flatMap (nx n d) = d := by
  intro m
  induction m with
  | zero => intro d hd; simp at hd; simp [hd]
  | succ m ih =>
    intro d hd
    rw [Nat.add_mul, Nat.one_mul] at hd
    have h1 : (List.range m).flatMap (nx n d) = (List.range m).flatMap (nx n (d.take (m * n))) := by
      rw [List.flatMap_def, List.flatMap_def]
      congr 1
      refine List.map_congr_left (fun i hi => ?_)
      have hi' := List.mem_range.1 hi
      have h1 : (i + 1) * n ≤ m * n := Nat.mul_le_mul_right n hi'
      rw [Nat.add_mul, Nat.one_mul] at h1
      unfold nx
      rw [List.drop_take, List.take_take, Nat.min_eq_left (by omega)]
    rw [List.range_succ, List.flatMap_append, h1, ih _ (by rw [List.length_take]; omega)]
    simp only [List.flatMap_cons, List.flatMap_nil, List.append_nil]
    unfold nx
    rw [List.take_of_length_le (l := d.drop (m * n)) (by rw [List.length_drop]; omega), List.take_append_drop]
theorem ext_nx {n m : Nat} {d e : List Int} (hd : d.length = m * n) (he : e.length = m * n) (h : ∀ i, i < m → nx n d i = nx n e i) : d = e := by
  rw [← fm_cut n m d hd, ← fm_cut n m e he, List.flatMap_def, List.flatMap_def]
  congr 1
  exact List.map_congr_left (fun i hi => h i (List.mem_range.1 hi))
theorem imgD_congr {f g : Nat → Nat → List Int} {a b : Nat} (h : ∀ x y, x < a → y < b → f x y = g x y) : imgD f a b = imgD g a b := by
  unfold imgD rowD
  rw [List.flatMap_def, List.flatMap_def]
  congr 1
  refine List.map_congr_left (fun y hy => ?_)
  rw [List.flatMap_def, List.flatMap_def]
  congr 1
  exact List.map_congr_left (fun x hx => h x y (List.mem_range.1 hx) (List.mem_range.1 hy))
theorem rowD_length {px : Nat → Nat → List Int} {a n y : Nat} (h : ∀ x, x < a → (px x y).length = n) : (rowD px a y).length = a * n := fm_length _ n a h
theorem imgD_length {px : Nat → Nat → List Int} {a b n : Nat} (h : ∀ x y, x < a → y < b → (px x y).length = n) : (imgD px a b).length = (b * a) * n := by
  rw [Nat.mul_assoc]
  exact fm_length _ (a * n) b (fun y hy => rowD_length (fun x hx => h x y hx hy))
theorem nx_imgD {px : Nat → Nat → List Int} {a b n : Nat} (h : ∀ x y, x < a → y < b → (px x y).length = n) {x y : Nat} (hx : x < a) (hy : y < b) : nx n (imgD px a b) (y * a + x) = px x y := by
  have h1 := fm_get (rowD px a) (a * n) b (fun y hy => rowD_length (fun x hx => h x y hx hy)) y hy
  have h2 := fm_get (fun x => px x y) n a (fun x hx => h x y hx hy) x hx
  have h3 : (x + 1) * n ≤ a * n := Nat.mul_le_mul_right n hx
  rw [Nat.add_mul, Nat.one_mul] at h3
  show nx n ((List.range b).flatMap (rowD px a)) (y * a + x) = px x y
  rw [← h2]
  show _ = nx n (rowD px a y) x
  rw [← h1]
  unfold nx
  rw [List.drop_take, List.take_take, Nat.min_eq_left (by omega), List.drop_drop, Nat.add_mul, Nat.mul_assoc]
/-- where a pixel lies -/
theorem lin_lt {a b x y : Nat} (hx : x < a) (hy : y < b) : y * a + x < b * a := by
  have : (y + 1) * a ≤ b * a := Nat.mul_le_mul_right a hy
  rw [Nat.add_mul, Nat.one_mul] at this
  omega
theorem lin_ne {a x y x' y' : Nat} (hx : x < a) (hx' : x' < a) (h : y * a + x = y' * a + x') : x = x' ∧ y = y' := by
  have ha : 0 < a := by omega
  have e1 := congrArg (· % a) h
  have e2 := congrArg (· / a) h
  simp only [Nat.mul_comm _ a, Nat.mul_add_mod, Nat.mul_add_div ha, Nat.mod_eq_of_lt hx, Nat.mod_eq_of_lt hx', Nat.div_eq_of_lt hx, Nat.div_eq_of_lt hx', Nat.add_zero] at e1 e2
  exact ⟨e1, e2⟩
theorem lin_of {a b i : Nat} (h : i < b * a) : i % a < a ∧ i / a < b ∧ (i / a) * a + i % a = i := by
  have ha : 0 < a := by
    rcases Nat.eq_zero_or_pos a with rfl | h'
    · simp at h
    · exact h'
  refine ⟨Nat.mod_lt _ ha, (Nat.div_lt_iff_lt_mul ha).2 h, ?_⟩
  rw [Nat.mul_comm]; exact Nat.div_add_mod i a
theorem ext_img {n a b : Nat} {d e : List Int} (hd : d.length = (b * a) * n) (he : e.length = (b * a) * n) (h : ∀ x y, x < a → y < b → nx n d (y * a + x) = nx n e (y * a + x)) : d = e := by
  refine ext_nx hd he (fun i hi => ?_)
  obtain ⟨h1, h2, h3⟩ := lin_of hi
  rw [← h3]
  exact h _ _ h1 h2
/-- a part is overwritten -/
theorem nx_laid {n m : Nat} {d ys : List Int} (hd : d.length = m * n) (hy : ys.length = n) {j : Nat} (hj : j < m) {i : Nat} (hi : i < m) : nx n (laidOver d (j * n) ys) i = if i = j then ys else nx n d i := by
  have hj1 : (j + 1) * n ≤ m * n := Nat.mul_le_mul_right n hj
  have hi1 : (i + 1) * n ≤ m * n := Nat.mul_le_mul_right n hi
  rw [Nat.add_mul, Nat.one_mul] at hj1 hi1
  unfold nx laidOver
  have hlt : (d.take (j * n)).length = j * n := by rw [List.length_take]; omega
  by_cases c : i = j
  · subst c
    rw [if_pos rfl]
    have e1 : (d.take (i * n) ++ (ys ++ d.drop (i * n + ys.length))).drop (i * n) = ys ++ d.drop (i * n + ys.length) := by
      rw [List.drop_append, List.drop_eq_nil_of_le (by omega), hlt, Nat.sub_self, List.drop_zero, List.nil_append]
    rw [e1, ← hy, List.take_left]
  · rw [if_neg c]
    by_cases c2 : i < j
    · have h1 : (i + 1) * n ≤ j * n := Nat.mul_le_mul_right n c2
      rw [Nat.add_mul, Nat.one_mul] at h1
      rw [List.drop_append_of_le_length (by omega), List.take_append_of_le_length (by rw [List.length_drop]; omega), List.drop_take, List.take_take, Nat.min_eq_left (by omega)]
    · have h1 : (j + 1) * n ≤ i * n := Nat.mul_le_mul_right n (by omega)
      rw [Nat.add_mul, Nat.one_mul] at h1
      rw [← List.append_assoc, List.drop_append, List.drop_eq_nil_of_le (by rw [List.length_append, hlt, hy]; omega), List.nil_append, List.drop_drop, List.length_append, hlt, hy]
      congr 2
      omega
theorem nat_of {a b p : Int} {d : List Int} (hv : validI a b p d = true) : ∃ an bn pn : Nat, a = an ∧ b = bn ∧ p = pn ∧ 1 ≤ an ∧ an ≤ 16 ∧ 1 ≤ bn ∧ bn ≤ 16 ∧ 1 ≤ pn ∧ pn ≤ 4 ∧ d.length = (bn * an) * pn := by
  obtain ⟨hs, hl, _⟩ := (validI_iff a b p d).1 hv
  obtain ⟨an, rfl⟩ := Int.eq_ofNat_of_zero_le (show 0 ≤ a by omega)
  obtain ⟨bn, rfl⟩ := Int.eq_ofNat_of_zero_le (show 0 ≤ b by omega)
  obtain ⟨pn, rfl⟩ := Int.eq_ofNat_of_zero_le (show 0 ≤ p by omega)
  refine ⟨an, bn, pn, rfl, rfl, rfl, by omega, by omega, by omega, by omega, by omega, by omega, ?_⟩
  have : (d.length : Int) = ((an * bn * pn : Nat) : Int) := by rw [hl]; push_cast; rfl
  rw [Nat.mul_comm bn an]
  exact Int.ofNat.inj this
theorem small {an bn pn : Nat} (h1 : an ≤ 16) (h2 : bn ≤ 16) (h3 : pn ≤ 4) : (bn * an) * pn ≤ 1024 := by
  have := Nat.mul_le_mul (Nat.mul_le_mul h2 h1) h3
  omega
theorem pixJ_nat {an bn pn x y : Nat} (h1 : an ≤ 16) (h2 : bn ≤ 16) (h3 : pn ≤ 4) (hx : x < an) (hy : y < bn) : pixJ an pn x y = (((y * an + x) * pn : Nat) : Int) ∧ (y * an + x) * pn + pn ≤ (bn * an) * pn := by
  have hl := lin_lt hx hy
  have hm : (y * an + x + 1) * pn ≤ (bn * an) * pn := Nat.mul_le_mul_right pn hl
  rw [Nat.add_mul, Nat.one_mul] at hm
  have hs := small h1 h2 h3
  have hya : y * an ≤ 16 * 16 := Nat.mul_le_mul (by omega) (by omega)
  refine ⟨?_, hm⟩
  unfold pixJ
  have e1 : ((y : Int) * (an : Int)) = ((y * an : Nat) : Int) := by push_cast; rfl
  rw [e1, w64 (x := ((y * an : Nat) : Int)) (by omega) (by omega)]
  have e2 : ((y * an : Nat) : Int) + (x : Int) = ((y * an + x : Nat) : Int) := by push_cast; rfl
  rw [e2, w64 (x := ((y * an + x : Nat) : Int)) (by omega) (by omega)]
  have e3 : ((y * an + x : Nat) : Int) * (pn : Int) = (((y * an + x) * pn : Nat) : Int) := by push_cast; rfl
  rw [e3, w64 (by omega) (by omega)]
theorem pxAt_nat {an bn pn x y : Nat} (h1 : an ≤ 16) (h2 : bn ≤ 16) (h3 : pn ≤ 4) (hx : x < an) (hy : y < bn) (d : List Int) : pxAt an pn d x y = nx pn d (y * an + x) := by
  obtain ⟨hj, hm⟩ := pixJ_nat h1 h2 h3 hx hy
  have hs := small h1 h2 h3
  unfold pxAt pixT nx
  rw [hj, w64 (by omega) (by omega)]
  have : ((((y * an + x) * pn : Nat) : Int) + (pn : Int)).toNat = (y * an + x) * pn + pn := by omega
  rw [this, Int.toNat_natCast, List.drop_take]
  congr 1
  omega

/- What the reference does with pixels: reads, writes, parts and pastes. -/

/-- A loop whose rounds hand on a state: what follows it is left open. -/
theorem ev_run {σ ρ : Type} (n : Nat) (L : Nat → Nat → σ → Option ρ) (E : σ → Nat → Option ρ) (Inv : Nat → σ → Prop)
    (step : ∀ i s, i < n → Inv i s → ∃ s', Inv (i + 1) s' ∧ ∀ r, Ev (fun k => L k (i + 1) s') r → Ev (fun k => L k i s) r)
    (last : ∀ s, Inv n s → ∀ r, Ev (E s) r → Ev (fun k => L k n s) r) :
    ∀ d i s, i + d = n → Inv i s → ∃ s', Inv n s' ∧ ∀ r, Ev (E s') r → Ev (fun k => L k i s) r := by
  intro d
  induction d with
  | zero =>
    intro i s hi hinv
    have : i = n := by omega
    subst this
    exact ⟨s, hinv, last s hinv⟩
  | succ d ih =>
    intro i s hi hinv
    obtain ⟨s1, h1, h2⟩ := step i s (by omega) hinv
    obtain ⟨s2, h3, h4⟩ := ih (i + 1) s1 (by omega) h1
    exact ⟨s2, h3, fun r hr => h2 r (h4 r hr)⟩
theorem copyInts_px (l : List Int) (hl : l.length ≤ 1000000) : spec_copyInts.f l = some l := by
  unfold spec_copyInts.f
  simp only [Option.bind_some]
  rw [if_pos (by simp; omega)]
  simp
theorem laid_set (d ys : List Int) (j i : Nat) (hi : i < ys.length) (hj : j + ys.length ≤ d.length) : (laidOver d j (ys.take i)).set (j + i) ys[i] = laidOver d j (ys.take (i + 1)) := by
  have h1 : (ys.take i).length = i := by rw [List.length_take]; omega
  have h2 : (ys.take (i + 1)).length = i + 1 := by rw [List.length_take]; omega
  have h3 : (d.take j).length = j := by rw [List.length_take]; omega
  unfold laidOver
  rw [h1, h2, List.set_append_right _ _ (by omega), h3, Nat.add_sub_cancel_left, List.set_append_right _ _ (by omega), h1, Nat.sub_self, List.drop_eq_getElem_cons (show j + i < d.length by omega), List.set_cons_zero, List.take_succ_eq_append_getElem hi, List.append_assoc]
  rfl
theorem onImage_eq {an bn : Nat} (h1 : 1 ≤ an ∧ an ≤ 16) (h2 : 1 ≤ bn ∧ bn ≤ 16) (p : Int) (d : List Int) (x y : Int) : spec_onImage.f an bn p d x y = some (decide (0 ≤ x ∧ x < an ∧ 0 ≤ y ∧ y < bn)) := by
  unfold spec_onImage.f
  rw [w64 (x := (an : Int) - 1) (by omega) (by omega), w64 (x := (bn : Int) - 1) (by omega) (by omega), spec_inRangeI_eq, spec_inRangeI_eq]
  simp only [Option.bind_some]
  by_cases c : 0 ≤ x ∧ x ≤ (an : Int) - 1
  · rw [if_pos (by simpa using c)]; congr 1; rw [Bool.eq_iff_iff]; simp; omega
  · rw [if_neg (by simpa using c), decide_eq_false (by omega)]

/- What the program's and the reference's BlendNumber come to, over whole numbers alone. -/

def P255 (n : Int) : Int := (2 * n + 255) / 510
theorem part255_eq (n : Int) (h0 : 0 ≤ n) (h1 : n ≤ 10000000) : impl_part255.f n = some (P255 n) := by
  unfold impl_part255.f P255
  rw [w64 (x := 2 * n) (by omega) (by omega), w64 (x := 2 * n + 255) (by omega) (by omega), tdiv_nn _ _ (by omega), w64 (by omega) (by omega)]
theorem P255_range (n : Int) (h0 : 0 ≤ n) (h1 : n ≤ 65025) : 0 ≤ P255 n ∧ P255 n ≤ 255 := by unfold P255; omega
theorem prod_range (a b : Int) (ha : 0 ≤ a) (ha' : a ≤ 255) (hb : 0 ≤ b) (hb' : b ≤ 255) : 0 ≤ a * b ∧ a * b ≤ 65025 := by
  refine ⟨Int.mul_nonneg ha hb, ?_⟩
  have := Int.mul_le_mul ha' hb' hb (by omega : (0 : Int) ≤ 255)
  omega
/-- What a mode makes of both numbers. -/
def mixN (mode a b : Int) : Int :=
  if mode = 1 then P255 (a * b) else if mode = 2 then 255 - P255 ((255 - a) * (255 - b)) else if mode = 3 then min a b else if mode = 4 then max a b else b
theorem mixN_range (mode a b : Int) (ha : 0 ≤ a) (ha' : a ≤ 255) (hb : 0 ≤ b) (hb' : b ≤ 255) : 0 ≤ mixN mode a b ∧ mixN mode a b ≤ 255 := by
  have h1 := prod_range a b ha ha' hb hb'
  have h2 := prod_range (255 - a) (255 - b) (by omega) (by omega) (by omega) (by omega)
  have h3 := P255_range _ h1.1 h1.2
  have h4 := P255_range _ h2.1 h2.2
  unfold mixN
  split
  · exact h3
  split
  · omega
  split
  · omega
  split
  · omega
  · omega
def coverN (mode a b alpha : Int) : Int := P255 (alpha * mixN mode a b + (255 - alpha) * a)
theorem cover_sum (m a alpha : Int) (ha : 0 ≤ a) (ha' : a ≤ 255) (hm : 0 ≤ m) (hm' : m ≤ 255) (h : 0 ≤ alpha) (h' : alpha ≤ 255) :
    255 * min a m ≤ alpha * m + (255 - alpha) * a ∧ alpha * m + (255 - alpha) * a ≤ 255 * max a m := by
  have e : (255 - alpha) * a = 255 * a - alpha * a := by rw [Int.sub_mul]
  rw [e]
  have k1 : alpha * m - alpha * a = alpha * (m - a) := by rw [Int.mul_sub]
  by_cases c : a ≤ m
  · have i1 : 0 ≤ alpha * (m - a) := Int.mul_nonneg h (by omega)
    have i2 : alpha * (m - a) ≤ 255 * (m - a) := Int.mul_le_mul_of_nonneg_right h' (by omega)
    omega
  · have i1 : 0 ≤ alpha * (a - m) := Int.mul_nonneg h (by omega)
    have i2 : alpha * (a - m) ≤ 255 * (a - m) := Int.mul_le_mul_of_nonneg_right h' (by omega)
    have k2 : alpha * m - alpha * a = -(alpha * (a - m)) := by rw [Int.mul_sub]; omega
    omega
theorem impl_sum (m a alpha : Int) (ha : 0 ≤ a) (ha' : a ≤ 255) (hm : 0 ≤ m) (hm' : m ≤ 255) (h : 0 ≤ alpha) (h' : alpha ≤ 255) :
    wrap64 (wrap64 (alpha * m) + wrap64 (wrap64 (255 - alpha) * a)) = alpha * m + (255 - alpha) * a ∧ 0 ≤ alpha * m + (255 - alpha) * a ∧ alpha * m + (255 - alpha) * a ≤ 65025 := by
  have h1 := prod_range alpha m h h' hm hm'
  have h2 := prod_range (255 - alpha) a (by omega) (by omega) ha ha'
  have h3 := cover_sum m a alpha ha ha' hm hm' h h'
  rw [w64 (x := 255 - alpha) (by omega) (by omega), w64 (x := alpha * m) (by omega) (by omega), w64 (x := (255 - alpha) * a) (by omega) (by omega), w64 (by omega) (by omega)]
  exact ⟨rfl, by omega, by omega⟩
theorem blended_eq (mode a b alpha : Int) (ha : 0 ≤ a) (ha' : a ≤ 255) (hb : 0 ≤ b) (hb' : b ≤ 255) (h : 0 ≤ alpha) (h' : alpha ≤ 255) :
    impl_blended.f mode a b alpha = some (coverN mode a b alpha) := by
  have p1 := prod_range a b ha ha' hb hb'
  have p2 := prod_range (255 - a) (255 - b) (by omega) (by omega) (by omega) (by omega)
  have hm := mixN_range mode a b ha ha' hb hb'
  have q1 := P255_range _ p1.1 p1.2
  have q2 := P255_range _ p2.1 p2.2
  unfold impl_blended.f coverN
  by_cases c1 : mode = 1
  · rw [if_pos c1, w64 (by omega) (by omega), part255_eq _ p1.1 (by omega)]
    simp only [Option.bind_some]
    have e : mixN mode a b = P255 (a * b) := by simp [mixN, c1]
    rw [e]
    obtain ⟨s1, s2, s3⟩ := impl_sum (P255 (a * b)) a alpha ha ha' q1.1 q1.2 h h'
    rw [s1, part255_eq _ s2 (by omega)]; rfl
  rw [if_neg c1]
  by_cases c2 : mode = 2
  · rw [if_pos c2, w64 (x := 255 - a) (by omega) (by omega), w64 (x := 255 - b) (by omega) (by omega), w64 (by omega) (by omega), part255_eq _ p2.1 (by omega)]
    simp only [Option.bind_some]
    have e : mixN mode a b = 255 - P255 ((255 - a) * (255 - b)) := by simp [mixN, c2]
    rw [e, w64 (x := 255 - P255 ((255 - a) * (255 - b))) (by omega) (by omega)]
    obtain ⟨s1, s2, s3⟩ := impl_sum (255 - P255 ((255 - a) * (255 - b))) a alpha ha ha' (by omega) (by omega) h h'
    rw [s1, part255_eq _ s2 (by omega)]; rfl
  rw [if_neg c2]
  by_cases c3 : mode = 3
  · rw [if_pos c3]
    have e : mixN mode a b = mn a b := by simp [mixN, c3, mn_def]
    rw [e] at hm ⊢
    obtain ⟨s1, s2, s3⟩ := impl_sum (mn a b) a alpha ha ha' hm.1 hm.2 h h'
    rw [s1, part255_eq _ s2 (by omega)]; rfl
  rw [if_neg c3]
  by_cases c4 : mode = 4
  · rw [if_pos c4]
    have e : mixN mode a b = mx a b := by simp [mixN, c4, mx_def]
    rw [e] at hm ⊢
    obtain ⟨s1, s2, s3⟩ := impl_sum (mx a b) a alpha ha ha' hm.1 hm.2 h h'
    rw [s1, part255_eq _ s2 (by omega)]; rfl
  rw [if_neg c4]
  have e : mixN mode a b = b := by simp [mixN, c1, c2, c3, c4]
  rw [e] at hm ⊢
  obtain ⟨s1, s2, s3⟩ := impl_sum b a alpha ha ha' hm.1 hm.2 h h'
  rw [s1, part255_eq _ s2 (by omega)]; rfl
theorem mix_eq (mode a b : Int) (ha : 0 ≤ a) (ha' : a ≤ 255) (hb : 0 ≤ b) (hb' : b ≤ 255) : spec_mix.f mode a b = some (mixN mode a b) := by
  have p1 := prod_range a b ha ha' hb hb'
  have p2 := prod_range (255 - a) (255 - b) (by omega) (by omega) (by omega) (by omega)
  have e1 : 2 * a * b = 2 * (a * b) := Int.mul_assoc ..
  have e2 : 2 * (255 - a) * (255 - b) = 2 * ((255 - a) * (255 - b)) := Int.mul_assoc ..
  unfold spec_mix.f mixN P255
  rw [mn_def, mx_def]
  repeat (split; · first
    | rfl
    | (rw [w64 (x := 2 * a) (by omega) (by omega), e1, w64 (x := 2 * (a * b)) (by omega) (by omega), w64 (x := 2 * (a * b) + 255) (by omega) (by omega), tdiv_nn _ _ (by omega), w64 (by omega) (by omega)])
    | (rw [w64 (x := 255 - a) (by omega) (by omega), w64 (x := 255 - b) (by omega) (by omega), w64 (x := 2 * (255 - a)) (by omega) (by omega), e2, w64 (x := 2 * ((255 - a) * (255 - b))) (by omega) (by omega), w64 (x := 2 * ((255 - a) * (255 - b)) + 255) (by omega) (by omega), tdiv_nn _ _ (by omega), w64 (x := (2 * ((255 - a) * (255 - b)) + 255) / 510) (by omega) (by omega), w64 (by omega) (by omega)]))
  rfl
theorem blend_eq (mode a b alpha : Int) (ha : 0 ≤ a) (ha' : a ≤ 255) (hb : 0 ≤ b) (hb' : b ≤ 255) (h : 0 ≤ alpha) (h' : alpha ≤ 255) :
    spec_blend.f mode a b alpha = some (coverN mode a b alpha) := by
  have hm := mixN_range mode a b ha ha' hb hb'
  unfold spec_blend.f coverN
  rw [mix_eq mode a b ha ha' hb hb']
  simp only [Option.bind_some]
  obtain ⟨s1, s2, s3⟩ := impl_sum (mixN mode a b) a alpha ha ha' hm.1 hm.2 h h'
  rw [s1]
  generalize alpha * mixN mode a b + (255 - alpha) * a = s at *
  unfold P255
  rw [w64 (x := 2 * s) (by omega) (by omega), w64 (x := 2 * s + 255) (by omega) (by omega), tdiv_nn _ _ (by omega), w64 (by omega) (by omega)]

/- Copies of an image: they are the image; marks on an image. -/

theorem toIntS_ev (l : List Int) (hl : l.length ≤ 2000000) : Ev (fun k => laws_toIntS.f k l) l := by
  have key := ev_up l.length (fun k i s => laws_toIntS.l0 k l s (i : Int)) (fun i s => s.length = l.length ∧ s.take i = l.take i) (fun i s => l)
    (by
      intro i s hi hs
      refine .inr ⟨s.set i l[i], fun k => ?_, ⟨by simpa using hs.1, ?_⟩, rfl⟩
      · simp only [laws_toIntS.l0]
        rw [if_pos (by omega), if_pos (by omega), rd_nat l i hi, if_pos (by omega), w64n i (by omega), Int.toNat_natCast]
      · rw [take_set s i _ (by omega), hs.2, List.take_succ_eq_append_getElem hi])
    (by
      intro s hs
      refine Ev.step (f := fun _ => some s) (fun k => ?_) (ev_const ?_)
      · simp only [laws_toIntS.l0]
        rw [if_neg (by omega)]
      · rw [← List.take_length (l := s), hs.1, hs.2, List.take_length])
    l.length 0 (List.replicate l.length 0) (by omega) ⟨by simp, by simp⟩
  unfold laws_toIntS.f
  refine Ev.congr (fun k => ?_) key
  rw [if_pos (by omega), if_pos (by omega)]
  simp
theorem eqIntS_ev (l : List Int) (hl : l.length ≤ 1000000000000) : Ev (fun k => laws_eqIntS.f k l l) true := by
  have key := ev_up l.length (fun k i (_ : Unit) => laws_eqIntS.l0 k l l (i : Int)) (fun _ _ => True) (fun _ _ => true)
    (by
      intro i s hi _
      refine .inr ⟨(), fun k => ?_, trivial, rfl⟩
      simp only [laws_eqIntS.l0]
      rw [if_pos (by omega), if_pos (by omega), if_pos (by omega), if_pos trivial, w64n i (by omega)])
    (by
      intro s _
      refine Ev.step (f := fun _ => some true) (fun k => ?_) (Ev.now true)
      simp only [laws_eqIntS.l0]
      rw [if_neg (by omega)])
    l.length 0 () (by omega) trivial
  unfold laws_eqIntS.f
  exact ev_pos rfl (by simpa using key)
theorem szIntS_eq (l : List Int) (n : Int) (h0 : 0 ≤ n) (h1 : n ≤ 1048576) (hl : l.length ≤ 9223372036854775807) :
    (l.length ≤ 1048576 ∧ n - (l.length : Int) ≥ 0 ∧ laws_szIntS.f l n = some (n - (l.length : Int))) ∨ laws_szIntS.f l n = some (-1) := by
  unfold laws_szIntS.f
  by_cases c : (l.length : Int) ≤ n
  · left
    rw [w64 (by omega) (by omega), if_neg (by omega)]
    exact ⟨by omega, by omega, rfl⟩
  · right
    rw [w64 (by omega) (by omega), if_pos (by omega)]
theorem markIntS_ev (l : List Int) (n : Int) (hl : l.length ≤ 1000000000) (h0 : 0 ≤ n) (h1 : n ≤ 1000000000000) : ∃ l' : List Int, l'.length = l.length ∧ Ev (fun k => laws_markIntS.f k l n) (n + (l.length : Int), l') := by
  have key := ev_up l.length (fun k i (s : List Int) => laws_markIntS.l0 k s (n + (i : Int)) (i : Int)) (fun i s => s.length = l.length ∧ s.take i = (List.range i).map (fun j => n + ((j : Nat) : Int))) (fun _ _ => (n + (l.length : Int), (List.range l.length).map (fun j => n + ((j : Nat) : Int))))
    (by
      intro i s hi hs
      refine .inr ⟨s.set i (n + (i : Int)), fun k => ?_, ⟨by simpa using hs.1, by rw [take_set s i _ (by omega), hs.2, List.range_succ, List.map_append]; rfl⟩, rfl⟩
      simp only [laws_markIntS.l0]
      rw [if_pos (by omega), if_pos (by omega), w64n i (by omega), w64 (x := n + (i : Int) + 1) (by omega) (by omega), Int.toNat_natCast, show n + (i : Int) + 1 = n + ((i + 1 : Nat) : Int) by omega])
    (by
      intro s hs
      refine Ev.step (f := fun _ => some (n + (l.length : Int), s)) (fun k => ?_) (ev_const ?_)
      · simp only [laws_markIntS.l0]
        rw [if_neg (by omega)]
      · rw [← hs.2, ← hs.1, List.take_length])
    l.length 0 l (by omega) ⟨rfl, by simp⟩
  refine ⟨(List.range l.length).map (fun j => n + ((j : Nat) : Int)), by simp, ?_⟩
  unfold laws_markIntS.f
  simpa using key
theorem szImage_eq (w h p : Int) (d : List Int) (n : Int) (h0 : 0 ≤ n) (h1 : n ≤ 1048576) (hl : d.length ≤ 9223372036854775807) :
    (d.length ≤ 1048576 ∧ n - (d.length : Int) ≥ 0 ∧ laws_szImage.f w h p d n = some (n - (d.length : Int))) ∨ laws_szImage.f w h p d n = some (-1) := by
  unfold laws_szImage.f
  rcases szIntS_eq d n h0 h1 hl with ⟨a, b, c⟩ | c
  · left
    rw [c]
    simp only [Option.bind_some]
    rw [if_neg (by omega)]
    exact ⟨a, b, rfl⟩
  · right
    rw [c]
    simp only [Option.bind_some]
    rw [if_pos (by omega)]
theorem toImage_ev (w h p : Int) (d : List Int) (hl : d.length ≤ 2000000) : Ev (fun k => laws_toImage.f k w h p d) (w, h, p, d) := by
  unfold laws_toImage.f
  exact ev_bind (toIntS_ev d hl) (Ev.now _)
theorem eqImage_ev (w h p : Int) (d : List Int) (hl : d.length ≤ 1000000000000) : Ev (fun k => laws_eqImage.f k w h p d w h p d) true := by
  unfold laws_eqImage.f
  exact ev_pos rfl (ev_pos rfl (ev_pos rfl (ev_bind (eqIntS_ev d hl) (ev_pos rfl (Ev.now _)))))
theorem markImage_ev (w h p : Int) (d : List Int) (n : Int) (hl : d.length ≤ 1000000000) (h0 : 0 ≤ n) (h1 : n ≤ 1000000000000) : ∃ d' : List Int, d'.length = d.length ∧ Ev (fun k => laws_markImage.f k w h p d n) (n + (d.length : Int), d') := by
  obtain ⟨d', e, hd⟩ := markIntS_ev d n hl h0 h1
  refine ⟨d', e, ?_⟩
  unfold laws_markImage.f
  exact ev_bind hd (Ev.now _)

/- Layers: valid ones, as the program and the reference have it; copies of a layer. -/

def layerV (w h p : Int) (d : List Int) (x y m a : Int) (pl : Int) : Bool := validI w h p d && decide (p = pl ∧ -16 ≤ x ∧ x ≤ 16 ∧ -16 ≤ y ∧ y ≤ 16 ∧ 0 ≤ m ∧ m ≤ 4 ∧ 0 ≤ a ∧ a ≤ 255)
theorem layerV_iff (w h p : Int) (d : List Int) (x y m a : Int) (pl : Int) : layerV w h p d x y m a pl = true ↔ validI w h p d = true ∧ p = pl ∧ -16 ≤ x ∧ x ≤ 16 ∧ -16 ≤ y ∧ y ≤ 16 ∧ 0 ≤ m ∧ m ≤ 4 ∧ 0 ≤ a ∧ a ≤ 255 := by simp [layerV]
theorem impl_isModeI_eq (m : Int) : impl_isMode.f m = some (decide (0 ≤ m ∧ m ≤ 4)) := by
  unfold impl_isMode.f
  by_cases c : m ≥ 0
  · rw [if_pos c]; congr 1; rw [decide_eq_decide]; omega
  · rw [if_neg c, decide_eq_false (by omega)]
theorem impl_isLayer_eq (w h p : Int) (d : List Int) (x y m a : Int) (b : Bool) (pl : Int) : impl_isLayer.f w h p d x y m a b pl = some (layerV w h p d x y m a pl) := by
  unfold impl_isLayer.f layerV
  rw [impl_isImage_eq, impl_isModeI_eq]
  simp only [Option.bind_some]
  by_cases c : validI w h p d = true
  · rw [if_pos c, c, Bool.true_and]
    by_cases c1 : p = pl
    · rw [if_pos c1]
      by_cases c2 : x ≥ -16
      · rw [if_pos c2]
        by_cases c3 : x ≤ 16
        · rw [if_pos c3]
          by_cases c4 : y ≥ -16
          · rw [if_pos c4]
            by_cases c5 : y ≤ 16
            · rw [if_pos c5]
              by_cases c6 : 0 ≤ m ∧ m ≤ 4
              · rw [if_pos (by simpa using c6)]
                by_cases c7 : a ≥ 0
                · rw [if_pos c7]; congr 1; rw [decide_eq_decide]; omega
                · rw [if_neg c7, decide_eq_false (by omega)]
              · rw [if_neg (by simpa using c6), decide_eq_false (by omega)]
            · rw [if_neg c5, decide_eq_false (by omega)]
          · rw [if_neg c4, decide_eq_false (by omega)]
        · rw [if_neg c3, decide_eq_false (by omega)]
      · rw [if_neg c2, decide_eq_false (by omega)]
    · rw [if_neg c1, decide_eq_false (by omega)]
  · rw [if_neg c, Bool.eq_false_iff.2 c, Bool.false_and]
theorem spec_validLayer_ev (w h p : Int) (d : List Int) (x y m a : Int) (b : Bool) (pl : Int) (hl : d.length ≤ 1000000000000) : Ev (fun k => spec_validLayer.f k w h p d x y m a b pl) (layerV w h p d x y m a pl) := by
  unfold spec_validLayer.f layerV
  refine ev_bind (spec_validImage_ev w h p d hl) ?_
  by_cases c : validI w h p d = true
  · refine ev_pos c ?_
    rw [c, Bool.true_and]
    refine ev_const ?_
    rw [spec_inRangeI_eq, spec_inRangeI_eq, spec_inRangeI_eq, spec_inRangeI_eq]
    simp only [Option.bind_some]
    by_cases c1 : p = pl
    · rw [if_pos c1]
      by_cases c2 : -16 ≤ x ∧ x ≤ 16
      · rw [if_pos (by simpa using c2)]
        by_cases c3 : -16 ≤ y ∧ y ≤ 16
        · rw [if_pos (by simpa using c3)]
          by_cases c4 : 0 ≤ m ∧ m ≤ 4
          · rw [if_pos (by simpa using c4)]; congr 1; rw [Bool.eq_iff_iff]; simp; omega
          · rw [if_neg (by simpa using c4), decide_eq_false (by omega)]
        · rw [if_neg (by simpa using c3), decide_eq_false (by omega)]
      · rw [if_neg (by simpa using c2), decide_eq_false (by omega)]
    · rw [if_neg c1, decide_eq_false (by omega)]
  · refine ev_neg c ?_
    rw [Bool.eq_false_iff.2 c, Bool.false_and]
    exact Ev.now _
theorem szLayer_eq (w h p : Int) (d : List Int) (x y m a : Int) (b : Bool) (n : Int) (h0 : 0 ≤ n) (h1 : n ≤ 1048576) (hl : d.length ≤ 9223372036854775807) :
    (d.length ≤ 1048576 ∧ n - (d.length : Int) ≥ 0 ∧ laws_szLayer.f w h p d x y m a b n = some (n - (d.length : Int))) ∨ laws_szLayer.f w h p d x y m a b n = some (-1) := by
  unfold laws_szLayer.f
  rcases szImage_eq w h p d n h0 h1 hl with ⟨e1, e2, e3⟩ | e
  · left
    rw [e3]
    simp only [Option.bind_some]
    rw [if_neg (by omega)]
    exact ⟨e1, e2, rfl⟩
  · right
    rw [e]
    simp only [Option.bind_some]
    rw [if_pos (by omega)]
theorem toLayer_ev (w h p : Int) (d : List Int) (x y m a : Int) (b : Bool) (hl : d.length ≤ 2000000) : Ev (fun k => laws_toLayer.f k w h p d x y m a b) (w, h, p, d, x, y, m, a, b) := by
  unfold laws_toLayer.f
  exact ev_bind (toImage_ev w h p d hl) (Ev.now _)
theorem eqLayer_ev (w h p : Int) (d : List Int) (x y m a : Int) (b : Bool) (hl : d.length ≤ 1000000000000) : Ev (fun k => laws_eqLayer.f k w h p d x y m a b w h p d x y m a b) true := by
  unfold laws_eqLayer.f
  exact ev_bind (eqImage_ev w h p d hl) (ev_pos rfl (ev_pos rfl (ev_pos rfl (ev_pos rfl (ev_pos rfl (ev_neg (by simp) (Ev.now _)))))))
theorem markLayer_ev (w h p : Int) (d : List Int) (x y m a : Int) (b : Bool) (n : Int) (hl : d.length ≤ 1000000000) (h0 : 0 ≤ n) (h1 : n ≤ 1000000000000) : ∃ d' : List Int, d'.length = d.length ∧ Ev (fun k => laws_markLayer.f k w h p d x y m a b n) (n + (d.length : Int), d') := by
  obtain ⟨d', e, hd⟩ := markImage_ev w h p d n hl h0 h1
  refine ⟨d', e, ?_⟩
  unfold laws_markLayer.f
  exact ev_bind hd (Ev.now _)

/- CoverImage, as the program and the reference have it. -/

def AllB (d : List Int) : Prop := ∀ n ∈ d, 0 ≤ n ∧ n ≤ 255
theorem allB_at {d : List Int} (h : AllB d) (i : Nat) (hi : i < d.length) : 0 ≤ d[i] ∧ d[i] ≤ 255 := h _ (List.getElem_mem hi)
theorem allB_nx {d : List Int} (h : AllB d) (n i : Nat) : AllB (nx n d i) := fun x hx => h x (List.mem_of_mem_drop (List.mem_of_mem_take hx))
theorem blV_cover {mode alpha n u : Int} (h1 : 0 ≤ alpha ∧ alpha ≤ 255) (h2 : 0 ≤ n ∧ n ≤ 255) (h3 : 0 ≤ u ∧ u ≤ 255) : blV mode alpha n u = coverN mode n u alpha := by
  unfold blV
  rw [blended_eq mode n u alpha h2.1 h2.2 h3.1 h3.2 h1.1 h1.2]
  rfl
/-- a covered pixel's numbers -/
def covL (mode alpha : Int) (l u : List Int) : List Int := List.zipWith (fun n m => coverN mode n m alpha) l u
theorem zip_cover {mode alpha : Int} (h1 : 0 ≤ alpha ∧ alpha ≤ 255) : ∀ {l u : List Int}, AllB l → AllB u → List.zipWith (blV mode alpha) l u = covL mode alpha l u := by
  intro l
  induction l with
  | nil => intro u _ _; rfl
  | cons x l ih =>
    intro u hl hu
    cases u with
    | nil => rfl
    | cons y u =>
      unfold covL at ih ⊢
      rw [List.zipWith_cons_cons, List.zipWith_cons_cons, blV_cover h1 (hl x (by simp)) (hu y (by simp)), ih (fun z hz => hl z (by simp [hz])) (fun z hz => hu z (by simp [hz]))]
theorem covL_len {mode alpha : Int} {l u : List Int} {n : Nat} (h1 : l.length = n) (h2 : u.length = n) : (covL mode alpha l u).length = n := by unfold covL; rw [List.length_zipWith]; omega
/-- an image's pixel that a layer's image covers -/
def covPx (an pn : Nat) (d : List Int) (X Y : Int) (wn hn : Nat) (e : List Int) (mode alpha : Int) (x y : Nat) : List Int :=
  if X ≤ (x : Int) ∧ (x : Int) < X + wn ∧ Y ≤ (y : Int) ∧ (y : Int) < Y + hn then covL mode alpha (nx pn d (y * an + x)) (nx pn e (((y : Int) - Y).toNat * wn + ((x : Int) - X).toNat)) else nx pn d (y * an + x)
theorem covPx_len {an bn pn wn hn : Nat} {d e : List Int} {X Y : Int} (mode alpha : Int) (hd : d.length = (bn * an) * pn) (he : e.length = (hn * wn) * pn) : ∀ x y, x < an → y < bn → (covPx an pn d X Y wn hn e mode alpha x y).length = pn := by
  intro x y hx hy
  unfold covPx
  split
  · exact covL_len (nx_length hd (lin_lt hx hy)) (nx_length he (lin_lt (by omega) (by omega)))
  · exact nx_length hd (lin_lt hx hy)
theorem coverPx_cov {an bn pn wn hn : Nat} (h1 : an ≤ 16) (h2 : bn ≤ 16) (h3 : pn ≤ 4) (h4 : wn ≤ 16) (h5 : hn ≤ 16) {d e : List Int} {X Y mode alpha : Int} (ha : 0 ≤ alpha ∧ alpha ≤ 255) (hd : AllB d) (he : AllB e) {x y : Nat} (hx : x < an) (hy : y < bn) :
    coverPx an pn d wn hn e X Y mode alpha x y = covPx an pn d X Y wn hn e mode alpha x y := by
  unfold coverPx covPx inBoxZ
  by_cases c : X ≤ (x : Int) ∧ (x : Int) < X + wn ∧ Y ≤ (y : Int) ∧ (y : Int) < Y + hn
  · rw [if_pos c, if_pos (decide_eq_true c), pxAt_nat h1 h2 h3 hx hy, pxAt_nat h4 h5 h3 (by omega) (by omega)]
    exact zip_cover ha (allB_nx hd _ _) (allB_nx he _ _)
  · rw [if_neg c, if_neg (by simpa using c), pxAt_nat h1 h2 h3 hx hy]
theorem laid_get (s zs : List Int) (j q : Nat) (hq : q < zs.length) (hj : j + zs.length ≤ s.length) : (laidOver s j (zs.take q)).getD (j + q) 0 = s.getD (j + q) 0 := by
  have h1 : (zs.take q).length = q := by rw [List.length_take]; omega
  have h2 : (s.take j).length = j := by rw [List.length_take]; omega
  unfold laidOver
  rw [List.getD_eq_getElem?_getD, List.getElem?_append_right (by omega), h2, Nat.add_sub_cancel_left, List.getElem?_append_right (by omega), h1, Nat.sub_self, List.getElem?_drop, Nat.add_zero, List.getD_eq_getElem?_getD]
theorem nx_getD (s : List Int) (n i q : Nat) (hq : q < n) : (nx n s i).getD q 0 = s.getD (i * n + q) 0 := by
  unfold nx
  rw [List.getD_eq_getElem?_getD, List.getElem?_take, if_pos hq, List.getElem?_drop, List.getD_eq_getElem?_getD]
theorem rd_getD (l : List Int) (i : Nat) : rd l (i : Int) = l.getD i 0 := by simp [rd]
theorem blendPx_ev {an bn pn wn hn : Nat} {X Y mode alpha : Int} (hid : Bool) (hal : 0 ≤ alpha ∧ alpha ≤ 255) (r c : Nat) (hr : r ≤ 16) (hc : c ≤ 16) (s e : List Int) (jd je : Nat) (hs1 : s.length ≤ 1024) (he1 : e.length ≤ 1024) (hm : jd * pn + pn ≤ s.length) (hme : je * pn + pn ≤ e.length) (hp : pn ≤ 4) (hdb : AllB (nx pn s jd)) (heb : AllB (nx pn e je))
    (hJ : wrap64 ((wrap64 ((wrap64 ((wrap64 ((wrap64 (Y + (r : Int))) * (an : Int))) + X)) + (c : Int))) * (pn : Int)) = ((jd * pn : Nat) : Int)) (hJe : wrap64 ((wrap64 ((wrap64 ((r : Int) * (wn : Int))) + (c : Int))) * (pn : Int)) = ((je * pn : Nat) : Int)) (res : List Int)
    (hres : Ev (fun k => spec_blendPaste.l1 k (r : Int) ((c + 1 : Nat) : Int) an bn pn (laidOver s (jd * pn) (covL mode alpha (nx pn s jd) (nx pn e je))) wn hn pn e X Y mode alpha hid) res) :
    Ev (fun k => spec_blendPaste.l2 k (r : Int) (c : Int) 0 an bn pn s wn hn pn e X Y mode alpha hid) res := by
  have HJ := Aside0.mk hJ
  have HJe := Aside0.mk hJe
  clear hJ hJe
  have hl1 : (nx pn s jd).length = pn := by unfold nx; rw [List.length_take, List.length_drop]; omega
  have hl2 : (nx pn e je).length = pn := by unfold nx; rw [List.length_take, List.length_drop]; omega
  obtain ⟨zs, hzs⟩ : ∃ zs, zs = covL mode alpha (nx pn s jd) (nx pn e je) := ⟨_, rfl⟩
  have hyl : zs.length = pn := by rw [hzs]; exact covL_len hl1 hl2
  rw [← hzs] at hres
  have hz : ∀ q (hq : q < pn), zs[q]'(by rw [hyl]; exact hq) = coverN mode ((nx pn s jd).getD q 0) ((nx pn e je).getD q 0) alpha := by
    intro q hq
    have hzq : zs[q]? = some (coverN mode ((nx pn s jd).getD q 0) ((nx pn e je).getD q 0) alpha) := by
      rw [hzs]
      unfold covL
      rw [List.getElem?_zipWith, List.getElem?_eq_getElem (show q < (nx pn s jd).length by omega), List.getElem?_eq_getElem (show q < (nx pn e je).length by omega), List.getD_eq_getElem?_getD, List.getElem?_eq_getElem (show q < (nx pn s jd).length by omega), List.getD_eq_getElem?_getD, List.getElem?_eq_getElem (show q < (nx pn e je).length by omega)]
      rfl
    rw [List.getElem?_eq_getElem (show q < zs.length by omega)] at hzq
    exact Option.some.inj hzq
  have hb : ∀ q, q < pn → (0 ≤ (nx pn s jd).getD q 0 ∧ (nx pn s jd).getD q 0 ≤ 255) ∧ (0 ≤ (nx pn e je).getD q 0 ∧ (nx pn e je).getD q 0 ≤ 255) := by
    intro q hq
    refine ⟨?_, ?_⟩
    · rw [List.getD_eq_getElem?_getD, List.getElem?_eq_getElem (show q < (nx pn s jd).length by omega)]; exact allB_at hdb q (by omega)
    · rw [List.getD_eq_getElem?_getD, List.getElem?_eq_getElem (show q < (nx pn e je).length by omega)]; exact allB_at heb q (by omega)
  have hg : ∀ q, q < pn → rd (laidOver s (jd * pn) (zs.take q)) ((jd * pn + q : Nat) : Int) = (nx pn s jd).getD q 0 := fun q hq => by rw [rd_getD, laid_get s zs _ q (by omega) (by omega), ← nx_getD s pn jd q hq]
  have hg2 : ∀ q, q < pn → rd e ((je * pn + q : Nat) : Int) = (nx pn e je).getD q 0 := fun q hq => by rw [rd_getD, ← nx_getD e pn je q hq]
  have hls : ∀ q, q < pn → (laidOver s (jd * pn) (zs.take q)).length = s.length := fun q hq => laidOver_length s _ _ (by rw [List.length_take]; omega)
  have hset : ∀ q (hq : q < pn), (laidOver s (jd * pn) (zs.take q)).set (jd * pn + q) (zs[q]'(by rw [hyl]; exact hq)) = laidOver s (jd * pn) (zs.take (q + 1)) := fun q hq => laid_set s zs (jd * pn) q (by omega) (by omega)
  clear hzs hdb heb
  generalize nx pn s jd = S at *
  generalize nx pn e je = E at *
  generalize hjp : jd * pn = j at *
  generalize hjq : je * pn = i at *
  clear hjp hjq
  obtain ⟨s2, hs2, hk⟩ := ev_run pn (fun k q s' => spec_blendPaste.l2 k (r : Int) (c : Int) (q : Int) an bn pn s' wn hn pn e X Y mode alpha hid) (fun s' k => spec_blendPaste.l1 k (r : Int) ((c + 1 : Nat) : Int) an bn pn s' wn hn pn e X Y mode alpha hid) (fun q s' => s' = laidOver s j (zs.take q))
    (by
      intro q s' hq hs'
      subst hs'
      refine ⟨_, hset q hq, fun res hres => Ev.step (fun k => ?_) hres⟩
      have b := hb q hq
      have hh := hls q hq
      have a1 := Aside0.mk (show wrap64 ((j : Int) + (q : Int)) = ((j + q : Nat) : Int) from by rw [w64 (by omega) (by omega)]; push_cast; rfl)
      have a2 := Aside0.mk (show wrap64 ((i : Int) + (q : Int)) = ((i + q : Nat) : Int) from by rw [w64 (by omega) (by omega)]; push_cast; rfl)
      have hp1 : (q : Int) < (pn : Int) := by omega
      have hp2 : (0 : Int) ≤ ((j + q : Nat) : Int) := by omega
      have hp3 : ((j + q : Nat) : Int) < ((laidOver s j (zs.take q)).length : Int) := by rw [hh]; omega
      have hp4 : (0 : Int) ≤ ((i + q : Nat) : Int) := by omega
      have hp5 : ((i + q : Nat) : Int) < (e.length : Int) := by omega
      simp only [spec_blendPaste.l2]
      rw [HJ.out, HJe.out, a1.out, a2.out, hg q hq, hg2 q hq, if_pos hp1, if_pos hp2, if_pos hp3, if_pos hp4, if_pos hp5, blend_eq mode _ _ alpha b.1.1 b.1.2 b.2.1 b.2.2 hal.1 hal.2]
      simp only [Option.bind_some]
      rw [← hz q hq, w64n q (by omega), Int.toNat_natCast])
    (by
      intro s' _ res hres
      refine Ev.step (fun k => ?_) hres
      simp only [spec_blendPaste.l2]
      rw [if_neg (by omega), w64n c (by omega)])
    pn 0 s (by omega) (by unfold laidOver; simp)
  rw [List.take_of_length_le (by omega)] at hs2
  subst hs2
  exact hk _ hres
theorem at_px2 {an pn x0 y0 r c : Nat} {X Y : Int} (h1 : an ≤ 16) (hy : y0 ≤ 16) (hx0 : X + (c : Int) = (x0 : Int)) (hy0 : Y + (r : Int) = (y0 : Int)) (hX : -16 ≤ X ∧ X ≤ 16) (hY : -16 ≤ Y ∧ Y ≤ 16) (hr : r ≤ 16) (hc : c ≤ 16) (hJ : pixJ an pn x0 y0 = (((y0 * an + x0) * pn : Nat) : Int)) :
    wrap64 ((wrap64 ((wrap64 ((wrap64 ((wrap64 (Y + (r : Int))) * (an : Int))) + X)) + (c : Int))) * (pn : Int)) = (((y0 * an + x0) * pn : Nat) : Int) := by
  rw [← hJ]
  unfold pixJ
  clear hJ
  have hya : y0 * an ≤ 16 * 16 := Nat.mul_le_mul hy h1
  rw [hy0, w64 (x := (y0 : Int)) (by omega) (by omega)]
  have e1 : ((y0 : Int) * (an : Int)) = ((y0 * an : Nat) : Int) := by push_cast; rfl
  rw [e1]
  clear e1
  generalize y0 * an = t at *
  rw [w64 (x := (t : Int)) (by omega) (by omega), w64 (x := (t : Int) + X) (by omega) (by omega), show (t : Int) + X + (c : Int) = (t : Int) + (x0 : Int) by omega]
theorem blendPaste_ev {an bn pn wn hn : Nat} {X Y mode alpha : Int} (hid : Bool) (h1 : 1 ≤ an ∧ an ≤ 16) (h2 : 1 ≤ bn ∧ bn ≤ 16) (h3 : pn ≤ 4) (h4 : wn ≤ 16) (h5 : hn ≤ 16) (hX : -16 ≤ X ∧ X ≤ 16) (hY : -16 ≤ Y ∧ Y ≤ 16) (hal : 0 ≤ alpha ∧ alpha ≤ 255) (d e : List Int) (hd : d.length = (bn * an) * pn) (he : e.length = (hn * wn) * pn) (hdb : AllB d) (heb : AllB e) :
    Ev (fun k => spec_blendPaste.f k an bn pn d wn hn pn e X Y mode alpha hid) (imgD (covPx an pn d X Y wn hn e mode alpha) an bn) := by
  unfold spec_blendPaste.f
  have hlen := covPx_len (X := X) (Y := Y) mode alpha hd he
  let I : Nat → Nat → List Int → Prop := fun r c s => s.length = (bn * an) * pn ∧ ∀ x y : Nat, x < an → y < bn → nx pn s (y * an + x) = if X ≤ (x : Int) ∧ (x : Int) < X + wn ∧ Y ≤ (y : Int) ∧ (y : Int) < Y + hn ∧ ((y : Int) < Y + r ∨ ((y : Int) = Y + r ∧ (x : Int) < X + c)) then covL mode alpha (nx pn d (y * an + x)) (nx pn e (((y : Int) - Y).toNat * wn + ((x : Int) - X).toNat)) else nx pn d (y * an + x)
  have inner : ∀ (r : Nat), r < hn → ∀ s : List Int, I r 0 s → ∃ s' : List Int, I (r + 1) 0 s' ∧
        ∀ res, Ev (fun k => spec_blendPaste.l0 k ((r + 1 : Nat) : Int) an bn pn s' wn hn pn e X Y mode alpha hid) res → Ev (fun k => spec_blendPaste.l1 k (r : Int) 0 an bn pn s wn hn pn e X Y mode alpha hid) res := by
    intro r hr s hs
    obtain ⟨s', i4, i5⟩ := ev_run wn (fun k c s => spec_blendPaste.l1 k (r : Int) (c : Int) an bn pn s wn hn pn e X Y mode alpha hid) (fun s k => spec_blendPaste.l0 k ((r + 1 : Nat) : Int) an bn pn s wn hn pn e X Y mode alpha hid) (fun c s => I r c s)
      (by
        intro c s hc ⟨hsl, i1⟩
        have w1 := w64 (x := X + (c : Int)) (by omega) (by omega)
        have w2 := w64 (x := Y + (r : Int)) (by omega) (by omega)
        by_cases on : 0 ≤ X + (c : Int) ∧ X + (c : Int) < an ∧ 0 ≤ Y + (r : Int) ∧ Y + (r : Int) < bn
        · obtain ⟨x0, hx0⟩ := Int.eq_ofNat_of_zero_le on.1
          obtain ⟨y0, hy0⟩ := Int.eq_ofNat_of_zero_le on.2.2.1
          have hx0a : x0 < an := by omega
          have hy0b : y0 < bn := by omega
          have hel : (nx pn e (r * wn + c)).length = pn := nx_length he (lin_lt hc hr)
          have hdl : (nx pn d (y0 * an + x0)).length = pn := nx_length hd (lin_lt hx0a hy0b)
          have hlin := lin_lt hx0a hy0b
          obtain ⟨zs, hzs⟩ : ∃ zs, zs = covL mode alpha (nx pn d (y0 * an + x0)) (nx pn e (r * wn + c)) := ⟨_, rfl⟩
          have hyl : zs.length = pn := by rw [hzs]; exact covL_len hdl hel
          have hm : (y0 * an + x0 + 1) * pn ≤ (bn * an) * pn := Nat.mul_le_mul_right pn hlin
          rw [Nat.add_mul, Nat.one_mul] at hm
          have hme : (r * wn + c + 1) * pn ≤ (hn * wn) * pn := Nat.mul_le_mul_right pn (lin_lt hc hr)
          rw [Nat.add_mul, Nat.one_mul] at hme
          have sm := small h1.2 h2.2 h3
          have sme := small h4 h5 h3
          have hsd : nx pn s (y0 * an + x0) = nx pn d (y0 * an + x0) := by rw [i1 x0 y0 hx0a hy0b, if_neg (by omega)]
          refine ⟨laidOver s ((y0 * an + x0) * pn) zs, ⟨by rw [laidOver_length _ _ _ (by rw [hyl, hsl]; exact hm)]; exact hsl, ?_⟩, ?_⟩
          · intro x y hx hy
            rw [nx_laid hsl hyl hlin (lin_lt hx hy)]
            by_cases q : x = x0 ∧ y = y0
            · obtain ⟨rfl, rfl⟩ := q
              rw [if_pos rfl, if_pos (by omega), show ((y : Int) - Y).toNat = r by omega, show ((x : Int) - X).toNat = c by omega]
              exact hzs
            · rw [if_neg (fun z => q (lin_ne hx hx0a z)), i1 x y hx hy]
              by_cases z : X ≤ (x : Int) ∧ (x : Int) < X + wn ∧ Y ≤ (y : Int) ∧ (y : Int) < Y + hn ∧ ((y : Int) < Y + r ∨ ((y : Int) = Y + r ∧ (x : Int) < X + c))
              · rw [if_pos z, if_pos (by omega)]
              · rw [if_neg z, if_neg (by omega)]
          · intro res hres
            have HJ2 := Aside0.mk (at_px2 (X := X) (Y := Y) (x0 := x0) (y0 := y0) (r := r) (c := c) h1.2 (by omega) hx0 hy0 hX hY (by omega) (by omega) (pixJ_nat h1.2 h2.2 h3 hx0a hy0b).1)
            have HJe := Aside0.mk (pixJ_nat h4 h5 h3 hc hr).1
            have HB1 := Aside0.mk (show AllB (nx pn s (y0 * an + x0)) from by rw [hsd]; exact allB_nx hdb _ _)
            have q1 : s.length ≤ 1024 := by omega
            have q2 : e.length ≤ 1024 := by omega
            have q3 : (y0 * an + x0) * pn + pn ≤ s.length := by omega
            have q4 : (r * wn + c) * pn + pn ≤ e.length := by omega
            have HX1 := Aside0.mk (show zs = covL mode alpha (nx pn s (y0 * an + x0)) (nx pn e (r * wn + c)) from by rw [hzs, hsd])
            clear hzs hsd i1
            rw [HX1.out] at hres
            refine Ev.step (f := fun k => (spec_onImage.f an bn pn s (X + (c : Int)) (Y + (r : Int))).bind fun u => if u = true then spec_blendPaste.l2 k (r : Int) (c : Int) 0 an bn pn s wn hn pn e X Y mode alpha hid else spec_blendPaste.l1 k (r : Int) ((c + 1 : Nat) : Int) an bn pn s wn hn pn e X Y mode alpha hid) (fun k => ?_) (ev_now (onImage_eq h1 h2 _ _ _ _) (ev_pos (decide_eq_true on) (blendPx_ev hid hal r c (by omega) (by omega) s e (y0 * an + x0) (r * wn + c) q1 q2 q3 q4 h3 HB1.out (allB_nx heb _ _) HJ2.out HJe.out res hres)))
            simp only [spec_blendPaste.l1]
            rw [if_pos (by omega), w1, w2, w64n c (by omega)]
        · refine ⟨s, ⟨hsl, fun x y hx hy => ?_⟩, ?_⟩
          · rw [i1 x y hx hy]
            by_cases z : X ≤ (x : Int) ∧ (x : Int) < X + wn ∧ Y ≤ (y : Int) ∧ (y : Int) < Y + hn ∧ ((y : Int) < Y + r ∨ ((y : Int) = Y + r ∧ (x : Int) < X + c))
            · rw [if_pos z, if_pos (by omega)]
            · rw [if_neg z, if_neg (by omega)]
          · intro res hres
            refine Ev.step (f := fun k => (spec_onImage.f an bn pn s (X + (c : Int)) (Y + (r : Int))).bind fun u => if u = true then spec_blendPaste.l2 k (r : Int) (c : Int) 0 an bn pn s wn hn pn e X Y mode alpha hid else spec_blendPaste.l1 k (r : Int) ((c + 1 : Nat) : Int) an bn pn s wn hn pn e X Y mode alpha hid) (fun k => ?_) (ev_now (onImage_eq h1 h2 _ _ _ _) (ev_neg (by simpa using on) hres))
            simp only [spec_blendPaste.l1]
            rw [if_pos (by omega), w1, w2, w64n c (by omega)])
      (by
        intro s _ res hres
        refine Ev.step (fun k => ?_) hres
        simp only [spec_blendPaste.l1]
        rw [if_neg (by omega), w64n r (by omega)])
      wn 0 s (by omega) hs
    refine ⟨s', ⟨i4.1, fun x y hx hy => ?_⟩, i5⟩
    rw [i4.2 x y hx hy]
    by_cases z : X ≤ (x : Int) ∧ (x : Int) < X + wn ∧ Y ≤ (y : Int) ∧ (y : Int) < Y + hn ∧ ((y : Int) < Y + r ∨ ((y : Int) = Y + r ∧ (x : Int) < X + wn))
    · rw [if_pos z, if_pos (by omega)]
    · rw [if_neg z, if_neg (by omega)]
  obtain ⟨s', i4, i5⟩ := ev_run hn (fun k r s => spec_blendPaste.l0 k (r : Int) an bn pn s wn hn pn e X Y mode alpha hid) (fun s _ => some s) (fun r s => I r 0 s)
    (by
      intro r s hr hs
      obtain ⟨s', i1, i2⟩ := inner r hr s hs
      refine ⟨s', i1, fun res hres => Ev.step (fun k => ?_) (i2 res hres)⟩
      simp only [spec_blendPaste.l0]
      rw [if_pos (by omega)])
    (by
      intro s _ res hres
      refine Ev.step (fun k => ?_) hres
      simp only [spec_blendPaste.l0]
      rw [if_neg (by omega)])
    hn 0 d (by omega) ⟨hd, fun x y hx hy => by rw [if_neg (by omega)]⟩
  have q : s' = imgD (covPx an pn d X Y wn hn e mode alpha) an bn := ext_img i4.1 (imgD_length hlen) (fun x y hx hy => by
    rw [i4.2 x y hx hy, nx_imgD hlen hx hy]
    unfold covPx
    by_cases z : X ≤ (x : Int) ∧ (x : Int) < X + wn ∧ Y ≤ (y : Int) ∧ (y : Int) < Y + hn
    · rw [if_pos z, if_pos (by omega)]
    · rw [if_neg z, if_neg (by omega)])
  subst q
  exact i5 _ (Ev.now _)
/-- what CoverImage answers -/
def coverV (a b p : Int) (d : List Int) (lw lh lp : Int) (ld : List Int) (X Y mode alpha : Int) : Int × Int × Int × List Int × Bool :=
  if validI a b p d = true ∧ layerV lw lh lp ld X Y mode alpha p = true then (a, b, p, imgD (covPx a.toNat p.toNat d X Y lw.toNat lh.toNat ld mode alpha) a.toNat b.toNat, true) else (0, 0, 0, [], false)
theorem impl_CoverImage_eq (a b p : Int) (d : List Int) (lw lh lp : Int) (ld : List Int) (X Y mode alpha : Int) (hid : Bool) : impl_CoverImage.f a b p d lw lh lp ld X Y mode alpha hid = some (coverV a b p d lw lh lp ld X Y mode alpha) := by
  unfold impl_CoverImage.f coverV
  rw [impl_isImage_eq, impl_isLayer_eq]
  simp only [Option.bind_some]
  by_cases c1 : validI a b p d = true
  · rw [if_pos c1]
    by_cases c2 : layerV lw lh lp ld X Y mode alpha p = true
    · rw [if_pos c2, if_pos ⟨c1, c2⟩]
      obtain ⟨hvl, rfl, hx1, hx2, hy1, hy2, _, _, ha1, ha2⟩ := (layerV_iff _ _ _ _ _ _ _ _ _).1 c2
      unfold impl_coverImage.f
      rw [if_pos ⟨c1, hvl, rfl, ⟨hx1, hx2⟩, hy1, hy2⟩]
      have hb1 := ((validI_iff _ _ _ _).1 c1).2.2
      have hb2 := ((validI_iff _ _ _ _).1 hvl).2.2
      obtain ⟨an, bn, pn, rfl, rfl, rfl, q1, q2, q3, q4, q5, q6, q7⟩ := nat_of c1
      obtain ⟨wn, hn, _, rfl, rfl, _, q11, q12, q13, q14, _, _, _⟩ := nat_of hvl
      simp only [Int.toNat_natCast, Option.bind_some]
      rw [imgD_congr (fun x y hx hy => coverPx_cov q2 q4 q6 q12 q14 ⟨ha1, ha2⟩ hb1 hb2 hx hy)]
    · rw [if_neg c2, if_neg (fun h => c2 h.2)]
  · rw [if_neg c1, if_neg (fun h => c1 h.1)]
theorem spec_CoverImage_ev (a b p : Int) (d : List Int) (lw lh lp : Int) (ld : List Int) (X Y mode alpha : Int) (hid : Bool) (hd0 : d.length ≤ 2000000) (he0 : ld.length ≤ 2000000) : Ev (fun k => spec_CoverImage.f k a b p d lw lh lp ld X Y mode alpha hid) (coverV a b p d lw lh lp ld X Y mode alpha) := by
  unfold spec_CoverImage.f
  have stop : ∀ q, ¬ (validI a b p d = true ∧ layerV lw lh lp ld X Y mode alpha p = true) → q = true → Ev (fun k => spec_CoverImage.j0 k q a b p d lw lh lp ld X Y mode alpha hid) (coverV a b p d lw lh lp ld X Y mode alpha) := by
    intro q hn hq
    subst hq
    unfold coverV
    rw [if_neg hn]
    refine Ev.step (f := fun _ => some (0, 0, 0, [], false)) (fun k => ?_) (Ev.now _)
    simp only [spec_CoverImage.j0]
    rw [if_pos trivial]
  refine ev_bind (spec_validImage_ev a b p d (by omega)) ?_
  by_cases c1 : validI a b p d = true
  · refine ev_pos c1 (ev_bind (spec_validLayer_ev lw lh lp ld X Y mode alpha hid p (by omega)) ?_)
    by_cases c2 : layerV lw lh lp ld X Y mode alpha p = true
    · rw [c2]
      obtain ⟨hvl, rfl, hx1, hx2, hy1, hy2, _, _, ha1, ha2⟩ := (layerV_iff _ _ _ _ _ _ _ _ _).1 c2
      have hb1 := ((validI_iff _ _ _ _).1 c1).2.2
      have hb2 := ((validI_iff _ _ _ _).1 hvl).2.2
      unfold coverV
      rw [if_pos ⟨c1, c2⟩]
      obtain ⟨an, bn, pn, rfl, rfl, rfl, q1, q2, q3, q4, q5, q6, q7⟩ := nat_of c1
      obtain ⟨wn, hn, pm, rfl, rfl, hpm, q11, q12, q13, q14, _, _, q17⟩ := nat_of hvl
      have hpm := Int.ofNat.inj hpm
      subst hpm
      simp only [Int.toNat_natCast]
      refine Ev.step (f := fun k => (spec_copyImage.f an bn pn d).bind fun t => (spec_blendPaste.f k t.1 t.2.1 t.2.2.1 t.2.2.2 wn hn pn ld X Y mode alpha hid).bind fun u => some (t.1, t.2.1, t.2.2.1, u, true)) (fun k => ?_) (ev_now (show spec_copyImage.f an bn pn d = some ((an : Int), (bn : Int), (pn : Int), d) from by
        unfold spec_copyImage.f
        rw [copyInts_px d (by have sm := small q2 q4 q6; omega)]
        rfl) (ev_bind (blendPaste_ev hid ⟨q1, q2⟩ ⟨q3, q4⟩ q6 q12 q14 ⟨hx1, hx2⟩ ⟨hy1, hy2⟩ ⟨ha1, ha2⟩ d ld q7 q17 hb1 hb2) (Ev.now _)))
      simp only [spec_CoverImage.j0, Bool.not_true]
      rw [if_neg (by simp)]
    · rw [Bool.eq_false_iff.2 c2]
      exact stop _ (fun h => c2 h.2) rfl
  · exact ev_neg c1 (stop _ (fun h => c1 h.1) rfl)
theorem coverV_len (a b p : Int) (d : List Int) (lw lh lp : Int) (ld : List Int) (X Y mode alpha : Int) : (coverV a b p d lw lh lp ld X Y mode alpha).2.2.2.1.length ≤ 1024 := by
  unfold coverV
  split
  · rename_i hc
    obtain ⟨c1, c2⟩ := hc
    obtain ⟨hvl, rfl, _⟩ := (layerV_iff _ _ _ _ _ _ _ _ _).1 c2
    obtain ⟨an, bn, pn, rfl, rfl, rfl, q1, q2, q3, q4, q5, q6, q7⟩ := nat_of c1
    obtain ⟨wn, hn, pm, rfl, rfl, hpm, q11, q12, q13, q14, _, _, q17⟩ := nat_of hvl
    have hpm := Int.ofNat.inj hpm
    subst hpm
    simp only [Int.toNat_natCast]
    rw [imgD_length (covPx_len mode alpha q7 q17)]
    exact small q2 q4 q6
  · simp

/- Marks on numbers: what is written into a list, and read again. -/

def markedI (m : Nat) (n : Int) : List Int := (List.range m).map (fun j => n + ((j : Nat) : Int))
theorem markedI_length (m : Nat) (n : Int) : (markedI m n).length = m := by simp [markedI]
theorem markIntS_is (l : List Int) (n : Int) (hl : l.length ≤ 1000000000) (h0 : 0 ≤ n) (h1 : n ≤ 1000000000000) : Ev (fun k => laws_markIntS.f k l n) (n + (l.length : Int), markedI l.length n) := by
  have key := ev_up l.length (fun k i (s : List Int) => laws_markIntS.l0 k s (n + (i : Int)) (i : Int)) (fun i s => s.length = l.length ∧ s.take i = markedI i n) (fun _ _ => (n + (l.length : Int), markedI l.length n))
    (by
      intro i s hi hs
      refine .inr ⟨s.set i (n + (i : Int)), fun k => ?_, ⟨by simpa using hs.1, by rw [take_set s i _ (by omega), hs.2]; unfold markedI; rw [List.range_succ, List.map_append]; rfl⟩, rfl⟩
      simp only [laws_markIntS.l0]
      rw [if_pos (by omega), if_pos (by omega), w64n i (by omega), w64 (x := n + (i : Int) + 1) (by omega) (by omega), Int.toNat_natCast, show n + (i : Int) + 1 = n + ((i + 1 : Nat) : Int) by omega])
    (by
      intro s hs
      refine Ev.step (f := fun _ => some (n + (l.length : Int), s)) (fun k => ?_) (ev_const ?_)
      · simp only [laws_markIntS.l0]
        rw [if_neg (by omega)]
      · rw [← hs.2, ← hs.1, List.take_length])
    l.length 0 l (by omega) ⟨rfl, by simp [markedI]⟩
  unfold laws_markIntS.f
  simpa using key
theorem heldIntS_ev (m : Nat) (n : Int) (hl : m ≤ 1000000000) (h0 : 0 ≤ n) (h1 : n ≤ 1000000000000) : Ev (fun k => laws_heldIntS.f k (markedI m n) n) (n + (m : Int)) := by
  have key := ev_up m (fun k i (_ : Unit) => laws_heldIntS.l0 k (markedI m n) (n + (i : Int)) (i : Int)) (fun _ _ => True) (fun _ _ => n + (m : Int))
    (by
      intro i s hi _
      right
      refine ⟨(), fun k => ?_, trivial, rfl⟩
      simp only [laws_heldIntS.l0]
      have hr : rd (markedI m n) (i : Int) = n + (i : Int) := by
        rw [rd_nat _ i (by rw [markedI_length]; omega)]
        simp [markedI]
      rw [if_pos (by rw [markedI_length]; omega), if_pos (by omega), hr, w64n i (by omega), w64 (x := n + (i : Int) + 1) (by omega) (by omega)]
      have e : n + (i : Int) + 1 = n + ((i + 1 : Nat) : Int) := by omega
      rw [e]
      simp)
    (by
      intro s _
      refine Ev.step (f := fun _ => some (n + (m : Int))) (fun k => ?_) (ev_const rfl)
      simp only [laws_heldIntS.l0]
      rw [if_neg (by rw [markedI_length]; omega)])
    m 0 () (by omega) trivial
  unfold laws_heldIntS.f
  simpa using key

/- Images that are marked, and whether they hold their marks. -/

theorem markImage_is (w h p : Int) (d : List Int) (n : Int) (hl : d.length ≤ 1000000000) (h0 : 0 ≤ n) (h1 : n ≤ 1000000000000) : Ev (fun k => laws_markImage.f k w h p d n) (n + (d.length : Int), markedI d.length n) := by
  unfold laws_markImage.f
  exact ev_bind (markIntS_is d n hl h0 h1) (Ev.now _)
theorem heldImage_ev (w h p : Int) (m : Nat) (n : Int) (hl : m ≤ 1000000000) (h0 : 0 ≤ n) (h1 : n ≤ 1000000000000) : Ev (fun k => laws_heldImage.f k w h p (markedI m n) n) (n + (m : Int)) := by
  unfold laws_heldImage.f
  exact ev_bind (heldIntS_ev m n hl h0 h1) (ev_neg (by omega) (Ev.now _))

/- The program's CoverImage and the reference's return the same, and what is returned is held by nobody else: over lists of numbers alone. -/

theorem FnExactCoverImage : laws_FnExactCoverImage.Pure := by
  intro w h p d w' h' p' d' x y m a hb
  intros
  rename_i hl _ _ _ _ hl'
  rcases szImage_eq w h p d 1048576 (by omega) (by omega) (by first | exact hl | omega) with ⟨hn, h0, hs⟩ | hs
  · rcases szLayer_eq w' h' p' d' x y m a hb (1048576 - (d.length : Int)) (by omega) (by omega) (by first | exact hl' | omega) with ⟨hn', h0', hs'⟩ | hs'
    · obtain ⟨K1, e1⟩ := toImage_ev w h p d (by omega)
      obtain ⟨K2, e2⟩ := toLayer_ev w' h' p' d' x y m a hb (by omega)
      obtain ⟨K4, e4⟩ := spec_CoverImage_ev w h p d w' h' p' d' x y m a hb (by omega) (by omega)
      have e5 := impl_CoverImage_eq w h p d w' h' p' d' x y m a hb
      have hVl := coverV_len w h p d w' h' p' d' x y m a
      generalize coverV w h p d w' h' p' d' x y m a = V at e4 e5 hVl
      obtain ⟨v0, v1, v2, v3, vok⟩ := V
      have hVl : v3.length ≤ 1024 := hVl
      obtain ⟨K6, e6⟩ := eqImage_ev v0 v1 v2 v3 (by omega)
      obtain ⟨K7, e7⟩ := eqImage_ev w h p d (by omega)
      obtain ⟨K8, e8⟩ := eqLayer_ev w' h' p' d' x y m a hb (by omega)
      obtain ⟨K10, e10⟩ := markImage_is w h p d 1 (by omega) (by omega) (by omega)
      obtain ⟨z, hz, K11, e11⟩ := markLayer_ev w' h' p' d' x y m a hb (1 + (d.length : Int)) (by omega) (by omega) (by omega)
      obtain ⟨K13, e13⟩ := markImage_is v0 v1 v2 v3 1 (by omega) (by omega) (by omega)
      obtain ⟨K14, e14⟩ := heldImage_ev v0 v1 v2 v3.length 1 (by omega) (by omega) (by omega)
      refine ⟨K1 + K2 + K4 + K6 + K7 + K8 + K10 + K11 + K13 + K14 + 1, laws_FnExactCoverImage.f_of (Or.inr (Or.inr ?_))⟩
      exact ⟨_, _, w, h, p, d, w', h', p', d', x, y, m, a, hb, v0, v1, v2, v3, vok, _, _, _, _, _, _, hs, by omega, hs', by omega, e1 _ (by omega), e2 _ (by omega), e4 _ (by omega), e5, e6 _ (by omega), e7 _ (by omega), e8 _ (by omega), e10 _ (by omega), e11 _ (by omega), by omega, e13 _ (by omega), e14 _ (by omega), by omega⟩
    · exact ⟨0, laws_FnExactCoverImage.f_of (Or.inr (Or.inl ⟨_, _, hs, by omega, hs', by omega⟩))⟩
  · exact ⟨0, laws_FnExactCoverImage.f_of (Or.inl ⟨_, hs, by omega⟩)⟩
end Go.Proofs.Ytnofkbbcbpjhfaa.Pure

/- The head of the translation reads as a plain cut. -/
namespace Go.Proofs.Ytnofkbbcbpjhfaa.Head
set_option maxRecDepth 100000
theorem wordsSigns_word (w r : List Char) (h : w.all (fun c => !(c == Char.ofNat 32)) = true) : wordsSigns (w ++ Char.ofNat 32 :: r) = w :: wordsSigns r := by
  induction w with
  | nil => rfl
  | cons c w ih =>
    simp only [List.all_cons, Bool.and_eq_true, Bool.not_eq_true', beq_eq_false_iff_ne, ne_eq] at h
    have h1 := ih (by simpa using h.2)
    rw [List.cons_append, wordsSigns.eq_3 c _ h.1, h1]
def w1 : List Char := [104, 97, 114, 110, 101, 115, 115].map Char.ofNat
def w2 : List Char := [98, 98, 56, 56, 48, 50, 51, 48, 99, 56, 98, 97, 54, 51, 51, 51, 48, 101, 54, 53, 56, 97, 98, 51, 97, 51, 99, 100, 54, 102, 98, 98, 55, 101, 51, 50, 99, 48, 56, 52, 55, 54, 49, 49, 100, 50, 51, 56, 55, 100, 54, 48, 49, 99, 100, 97, 51, 102, 50, 98, 48, 57, 53, 101].map Char.ofNat
def w3 : List Char := [99, 117, 116].map Char.ofNat
def w4 : List Char := [97, 116, 32, 108, 111, 111, 112, 46, 101, 120, 97, 109, 112, 108, 101, 47, 112, 105, 120, 101, 108, 119, 111, 114, 107, 115, 47, 108, 97, 119, 115, 46, 70, 110, 69, 120, 97, 99, 116, 71, 97, 112, 79, 102, 32, 108, 111, 111, 112, 46, 101, 120, 97, 109, 112, 108, 101, 47, 112, 105, 120, 101, 108, 119, 111, 114, 107, 115, 47, 108, 97, 119, 115, 46, 70, 110, 71, 97, 112, 79, 102, 32, 108, 111, 111, 112, 46, 101, 120, 97, 109, 112, 108, 101, 47, 112, 105, 120, 101, 108, 119, 111, 114, 107, 115, 47, 108, 97, 119, 115, 46, 70, 110, 69, 120, 97, 99, 116, 84, 105, 108, 101, 66, 111, 120, 101, 115, 32, 108, 111, 111, 112, 46, 101, 120, 97, 109, 112, 108, 101, 47, 112, 105, 120, 101, 108, 119, 111, 114, 107, 115, 47, 108, 97, 119, 115, 46, 70, 110, 84, 105, 108, 101, 66, 111, 120, 101, 115, 32, 108, 111, 111, 112, 46, 101, 120, 97, 109, 112, 108, 101, 47, 112, 105, 120, 101, 108, 119, 111, 114, 107, 115, 47, 108, 97, 119, 115, 46, 70, 110, 69, 120, 97, 99, 116, 68, 105, 114, 116, 121, 84, 105, 108, 101, 115, 32, 108, 111, 111, 112, 46, 101, 120, 97, 109, 112, 108, 101, 47, 112, 105, 120, 101, 108, 119, 111, 114, 107, 115, 47, 108, 97, 119, 115, 46, 70, 110, 68, 105, 114, 116, 121, 84, 105, 108, 101, 115, 32, 108, 111, 111, 112, 46, 101, 120, 97, 109, 112, 108, 101, 47, 112, 105, 120, 101, 108, 119, 111, 114, 107, 115, 47, 108, 97, 119, 115, 46, 70, 110, 69, 120, 97, 99, 116, 77, 101, 114, 103, 101, 80, 108, 97, 110, 101, 115, 32, 108, 111, 111, 112, 46, 101, 120, 97, 109, 112, 108, 101, 47, 112, 105, 120, 101, 108, 119, 111, 114, 107, 115, 47, 108, 97, 119, 115, 46, 70, 110, 69, 120, 97, 99, 116, 67, 111, 118, 101, 114, 73, 109, 97, 103, 101, 32, 108, 111, 111, 112, 46, 101, 120, 97, 109, 112, 108, 101, 47, 112, 105, 120, 101, 108, 119, 111, 114, 107, 115, 47, 108, 97, 119, 115, 46, 70, 110, 67, 111, 118, 101, 114, 73, 109, 97, 103, 101, 32, 108, 111, 111, 112, 46, 101, 120, 97, 109, 112, 108, 101, 47, 112, 105, 120, 101, 108, 119, 111, 114, 107, 115, 47, 108, 97, 119, 115, 46, 70, 110, 69, 120, 97, 99, 116, 70, 108, 97, 116, 116, 101, 110, 76, 97, 121, 101, 114, 115, 32, 108, 111, 111, 112, 46, 101, 120, 97, 109, 112, 108, 101, 47, 112, 105, 120, 101, 108, 119, 111, 114, 107, 115, 47, 108, 97, 119, 115, 46, 70, 110, 70, 108, 97, 116, 116, 101, 110, 76, 97, 121, 101, 114, 115, 32, 108, 111, 111, 112, 46, 101, 120, 97, 109, 112, 108, 101, 47, 112, 105, 120, 101, 108, 119, 111, 114, 107, 115, 47, 108, 97, 119, 115, 46, 70, 110, 70, 108, 97, 116, 116, 101, 110, 76, 97, 121, 101, 114, 115, 72, 105, 100, 100, 101, 110, 32, 108, 111, 111, 112, 46, 101, 120, 97, 109, 112, 108, 101, 47, 112, 105, 120, 101, 108, 119, 111, 114, 107, 115, 47, 108, 97, 119, 115, 46, 70, 110, 69, 120, 97, 99, 116, 80, 97, 116, 99, 104, 73, 109, 97, 103, 101, 32, 108, 111, 111, 112, 46, 101, 120, 97, 109, 112, 108, 101, 47, 112, 105, 120, 101, 108, 119, 111, 114, 107, 115, 47, 108, 97, 119, 115, 46, 70, 110, 80, 97, 116, 99, 104, 73, 109, 97, 103, 101, 84, 119, 105, 99, 101, 32, 108, 111, 111, 112, 46, 101, 120, 97, 109, 112, 108, 101, 47, 112, 105, 120, 101, 108, 119, 111, 114, 107, 115, 47, 108, 97, 119, 115, 46, 70, 110, 69, 120, 97, 99, 116, 82, 101, 100, 114, 97, 119, 84, 105, 108, 101, 115, 32, 108, 111, 111, 112, 46, 101, 120, 97, 109, 112, 108, 101, 47, 112, 105, 120, 101, 108, 119, 111, 114, 107, 115, 47, 108, 97, 119, 115, 46, 70, 110, 82, 101, 100, 114, 97, 119, 68, 105, 114, 116, 121, 32, 108, 111, 111, 112, 46, 101, 120, 97, 109, 112, 108, 101, 47, 112, 105, 120, 101, 108, 119, 111, 114, 107, 115, 47, 108, 97, 119, 115, 46, 70, 110, 82, 101, 100, 114, 97, 119, 84, 105, 108, 101, 115].map Char.ofNat
theorem signs0 : Try.prog.initOrder = String.ofList (w1 ++ Char.ofNat 32 :: (w2 ++ Char.ofNat 32 :: (w3 ++ Char.ofNat 32 :: w4))) := by kernel_rfl
theorem behind : behindMainWord (wordsSigns Try.prog.initOrder.toList) = w3 :: wordsSigns w4 := by
  rw [signs0, String.toList_ofList, wordsSigns_word w1 _ (by kernel_rfl), wordsSigns_word w2 _ (by kernel_rfl), wordsSigns_word w3 _ (by kernel_rfl)]
  unfold behindMainWord
  dsimp only
  rw [if_pos (by kernel_rfl)]
theorem strip_cut (R : List (List Char)) : stripLifts liftWords (w3 :: R) = ([], w3 :: R) := by kernel_rfl
theorem mayEnter_of (P : Program) (R : List (List Char)) (h : behindMainWord (wordsSigns P.initOrder.toList) = w3 :: R) (h1 : P.laysLater = false) (h2 : P.bearsReflect = false) (h3 : P.doorFits [] = true) : P.mayEnter = true := by
  unfold Program.mayEnter
  rw [h]
  dsimp only
  rw [strip_cut, h1, h2, h3]
  kernel_rfl
theorem liftsFinal_of (P : Program) (R : List (List Char)) (h : behindMainWord (wordsSigns P.initOrder.toList) = w3 :: R) : P.liftsFinal = false := by
  unfold Program.liftsFinal Program.headLifts
  rw [h]
  dsimp only
  rw [strip_cut]
  kernel_rfl
theorem make_of (P : Program) (R : List (List Char)) (h : behindMainWord (wordsSigns P.initOrder.toList) = w3 :: R) : P.make = some .cut := by
  unfold Program.make
  rw [h]
  kernel_rfl
theorem mayEnter : Try.prog.mayEnter = true := mayEnter_of _ _ behind (by kernel_rfl) (by kernel_rfl) (by kernel_rfl)
theorem liftsFinal : Try.prog.liftsFinal = false := liftsFinal_of _ _ behind
theorem make : Try.prog.make = some .cut := make_of _ _ behind
end Go.Proofs.Ytnofkbbcbpjhfaa.Head

-- the row of the law FnExactCoverImage
namespace Go.Proofs.Ytnofkbbcbpjhfaa.fnExactCoverImage
open Go.ChangeShapes Go.WideShapes Go.ChangeAt Go.RowKit Go.Proofs.Ytnofkbbcbpjhfaa.Q Go.Proofs.YtnofkbbcbpjhfaaW.PrintWords
open Go.ChangeMaps (open_string shut_string)
set_option linter.unusedVariables false
theorem own : ownKnob Try.prog.godebug = none := by kernel_rfl
theorem laidOut : laidOutB Try.prog = true := by kernel_rfl
set_option maxHeartbeats 4000000 in
set_option maxRecDepth 100000 in
theorem lifted (os : Os) (started : os.Started) (H : Type) (enc : TypeId × Value → H) :
    ReturnsInHanded {} Try.checked os 10 .any (Rows.fnExactCoverImageSpec.pre6 enc Try.prog Try.f10 Rows.fnExactCoverImageRow.domain false) (Rows.fnExactCoverImageSpec.post enc Try.prog Try.f10 false true false false) := by
  refine returnsInHanded_of_change_sized (C := Try.checked) own started (by kernel_rfl) Try.func10
    (ChangeSpec.witness6 (enc := enc) (C := Try.checked) false ⟨#[], #[.agg #[.int .i64 0, .int .i64 0, .int .i64 0, .slice none 0 0], .agg #[.int .i64 0, .int .i64 0, .int .i64 0, .slice none 0 0, .int .i64 0, .int .i64 0, .int .i64 0, .int .i64 0, .bool false]], []⟩ 8 (by kernel_rfl) (by kernel_rfl) (by kernel_rfl) (by kernel_rfl)) ?_
  intro W base args ds gs before hval0 hW hcnd hsz0 _
  have hval : ∀ (j : Nat) t v, Try.f10.params[j]? = some t → args[j]? = some v → Value.okWide Try.prog W .any base t v := hval0
  have hW' := hW
  obtain ⟨p, q, hA0, hV, rfl, hfz, hnd⟩ := hW
  have hA : DataW.TrodAll enc Try.prog W 0 (fun _ => true) true Try.f10.params.toList args.toList ds p := hA0
  rw [Try.params10] at hA hval
  obtain ⟨v0, vs0, d0, ds0, p0, q0, hargs, rfl, rfl, h0, r0⟩ := trodAll_cons hA
  obtain ⟨v1, vs1, d1, ds1, p1, q1, rfl, rfl, rfl, h1, r1⟩ := trodAll_cons r0
  obtain ⟨rfl, rfl, rfl⟩ := trodAll_nil r1
  obtain rfl : args = #[v0, v1] := by cases args; simp_all
  obtain ⟨rfl, rfl⟩ := trodVars_none hV
  have k0 := h0
  have lt0 : ∀ x ∈ p0, x.block < W.heap.size := by obtain ⟨m, hm⟩ := k0; exact DataW.trod_lt m _ _ _ hm
  obtain ⟨fuel0, hf0⟩ := h0
  obtain ⟨cs0, rfl, hsz0⟩ := okWide_struct Try.underlying24 (hval 0 24 v0 rfl rfl)
  obtain ⟨y0, hK0, hq0⟩ := o24 _ _ _ _ _ _ hf0
  obtain ⟨A0_3, c0_3, hcs0, hc0_3, hr0_3⟩ := k24_open hK0
  obtain rfl : cs0 = #[.int .i64 y0.f0, .int .i64 y0.f1, .int .i64 y0.f2, .slice A0_3 y0.f3.length c0_3] := by cases cs0; simpa [Value.cells] using hcs0
  have k1 := h1
  have lt1 : ∀ x ∈ p1, x.block < W.heap.size := by obtain ⟨m, hm⟩ := k1; exact DataW.trod_lt m _ _ _ hm
  obtain ⟨fuel1, hf1⟩ := h1
  obtain ⟨cs1, rfl, hsz1⟩ := okWide_struct Try.underlying51 (hval 1 51 v1 rfl rfl)
  obtain ⟨y1, hK1, hq1⟩ := o51 _ _ _ _ _ _ hf1
  obtain ⟨A1_3, c1_3, hcs1, hc1_3, hr1_3⟩ := k51_open hK1
  obtain rfl : cs1 = #[.int .i64 y1.f0.f0, .int .i64 y1.f0.f1, .int .i64 y1.f0.f2, .slice A1_3 y1.f0.f3.length c1_3, .int .i64 y1.f1, .int .i64 y1.f2, .int .i64 y1.f3, .int .i64 y1.f4, .bool y1.f5] := by cases cs1; simpa [Value.cells] using hcs1
  clear hA0 hval0 hsz0
  obtain ⟨k, hh⟩ := Pure.FnExactCoverImage y0.f0 y0.f1 y0.f2 y0.f3 y1.f0.f0 y1.f0.f1 y1.f0.f2 y1.f0.f3 y1.f1 y1.f2 y1.f3 y1.f4 y1.f5 hq0.1 hq0.2.1 hq0.2.2.1 hq0.2.2.2 hr0_3.2.1 hq1.1.1 hq1.1.2.1 hq1.1.2.2.1 hq1.1.2.2.2 hr1_3.2.1 hq1.2.1 hq1.2.2.1 hq1.2.2.2.1 hq1.2.2.2.2.1
  refine (Q.laws_FnExactCoverImage.calls k y0.f0 y0.f1 y0.f2 _ _ y0.f3 y1.f0.f0 y1.f0.f1 y1.f0.f2 _ _ y1.f0.f3 y1.f1 y1.f2 y1.f3 y1.f4 y1.f5 true W hr0_3 hc0_3 hr1_3 hc1_3 hh).mono fun e W' hpost => ?_
  obtain ⟨he, bel0⟩ := hpost
  have bel : Below W.heap.size W W' := bel0
  subst he
  exact ⟨_, rfl, _, _, _, [], _, [], hW', trodAll_mk1 (shut_bool Try.underlying4 _), (trodAll_cons_mk (Below.trod laidOut (by kernel_rfl) (of_decide_eq_true (by kernel_rfl)) k0 bel lt0) (trodAll_cons_mk (Below.trod laidOut (by kernel_rfl) (of_decide_eq_true (by kernel_rfl)) k1 bel lt1) trodAll_mk0)), rfl, bel.frame _, fun h => by cases h⟩
set_option maxHeartbeats 4000000 in
theorem closed : joinedFacts Try.prog 10 Try.f10 Rows.fnExactCoverImageSpec Rows.fnExactCoverImageRow = true := by
  unfold joinedFacts
  rw [Head.mayEnter, Head.liftsFinal, Head.make]
  simp only [Bool.and_eq_true]
  repeat' apply And.intro
  all_goals first | exact True.intro | (as_aux_lemma => kernel_rfl)
set_option maxHeartbeats 4000000 in
theorem over : Rows.fnExactCoverImageRow.holds Try.pinned (OpenSpec.ofChange Rows.fnExactCoverImageSpec) :=
  OpenClaim.holds_of_wide 10 Try.f10 rfl rfl rfl rfl rfl rfl rfl ⟨rfl, rfl, rfl, rfl, rfl⟩ rfl rfl rfl rfl rfl (by kernel_rfl) Try.func10 closed
    (of_decide_eq_true (by kernel_rfl)) (by unfold Func.isWrapper; first | (rw [if_pos (by decide +kernel)]; kernel_rfl) | (rw [if_neg (by decide +kernel)]; exact ⟨rfl, rfl⟩))
    (fun os started H enc _ => lifted os started H enc)
theorem proved : Rows.FnExactCoverImageSaid := over
#print axioms proved
end Go.Proofs.Ytnofkbbcbpjhfaa.fnExactCoverImage
namespace Go.Proofs.Ytnofkbbcbpjhfaa
/-- The row, under a short name, for the claim. -/
theorem fnExactCoverImage_holds : Rows.FnExactCoverImageSaid := fnExactCoverImage.proved
end Go.Proofs.Ytnofkbbcbpjhfaa
