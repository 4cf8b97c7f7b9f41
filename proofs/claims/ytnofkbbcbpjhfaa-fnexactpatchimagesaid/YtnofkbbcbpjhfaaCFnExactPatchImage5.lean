/- A part of the proof that the statement FnExactPatchImageSaid holds, under no condition of its own: The program's PatchImage and the reference's return the same, and what is returned is held by nobody else: over lists of numbers alone. -/
import Derived.Test.YtnofkbbcbpjhfaaCFnExactPatchImage2
import Derived.Test.YtnofkbbcbpjhfaaCFnExactPatchImage4
import Derived.Test.YtnofkbbcbpjhfaaCFnExactPatchImage3
import Derived.Test.YtnofkbbcbpjhfaaCFnExactPatchImage1
import Derived.Deep.Slices
import Derived.Deep.Fields
import Derived.ChangeSame
import Derived.ProofKit
import Derived.OpenShut
import Derived.ShutString
import Derived.ChangeOld
import Derived.SizedLaws
import GoSem.Claim
/- The law FnExactPatchImage: its walk. -/
namespace Go.Proofs.Ytnofkbbcbpjhfaa.Q
open Go.RowKit Go.Proofs.YtnofkbbcbpjhfaaW.PrintWords Go.Proofs.YtnofkbbcbpjhfaaW.PrintLast Go.Proofs.YtnofkbbcbpjhfaaW.PrintMore
attribute [local go_sem] max2_int min2_int max_two min_two max_three min_three max_four min_four
set_option linter.unusedVariables false
set_option linter.unusedSimpArgs false

def laws_FnExactPatchImage.Goes (k : Nat) (a0_0 : Int) (a0_1 : Int) (a0_2 : Int) (l0_3 : List Int) (a1_0 : Int) (a1_1 : Int) (a1_2 : Int) (l1_3 : List Int) (l2_0 : List S137) : Prop := (∃ s0 : Int, laws_szImage.f a0_0 a0_1 a0_2 l0_3 1048576 = some s0 ∧ s0 < 0) ∨ (∃ s0 s1 : Int, laws_szImage.f a0_0 a0_1 a0_2 l0_3 1048576 = some s0 ∧ ¬ s0 < 0 ∧ laws_szImage.f a1_0 a1_1 a1_2 l1_3 s0 = some s1 ∧ s1 < 0) ∨ (∃ s0 s1 s2 : Int, laws_szImage.f a0_0 a0_1 a0_2 l0_3 1048576 = some s0 ∧ ¬ s0 < 0 ∧ laws_szImage.f a1_0 a1_1 a1_2 l1_3 s0 = some s1 ∧ ¬ s1 < 0 ∧ laws_szBoxS.f l2_0 s1 = some s2 ∧ s2 < 0) ∨ (∃ (s0 : Int) (s1 : Int) (s2 : Int) (x0_0 : Int) (x0_1 : Int) (x0_2 : Int) (x0_3 : List Int) (x1_0 : Int) (x1_1 : Int) (x1_2 : Int) (x1_3 : List Int) (x2_0 : List S47) (v0 : Int) (v1 : Int) (v2 : Int) (v3 : List Int) (vok : Bool) (k0 : Int) (y0 : List Int) (k1 : Int) (y1 : List Int) (k2 : Int) (y2 : List S47) (m : Int) (u : List Int), laws_szImage.f a0_0 a0_1 a0_2 l0_3 1048576 = some s0 ∧ ¬ s0 < 0 ∧ laws_szImage.f a1_0 a1_1 a1_2 l1_3 s0 = some s1 ∧ ¬ s1 < 0 ∧ laws_szBoxS.f l2_0 s1 = some s2 ∧ ¬ s2 < 0 ∧ laws_toImage.f k a0_0 a0_1 a0_2 l0_3 = some (x0_0, x0_1, x0_2, x0_3) ∧ laws_toImage.f k a1_0 a1_1 a1_2 l1_3 = some (x1_0, x1_1, x1_2, x1_3) ∧ laws_toBoxS.f k l2_0 = some x2_0 ∧ spec_PatchImage.f k x0_0 x0_1 x0_2 x0_3 x1_0 x1_1 x1_2 x1_3 x2_0 = some (v0, v1, v2, v3, vok) ∧ impl_PatchImage.f k x0_0 x0_1 x0_2 x0_3 x1_0 x1_1 x1_2 x1_3 x2_0 = some (v0, v1, v2, v3, vok) ∧ laws_eqImage.f k v0 v1 v2 v3 v0 v1 v2 v3 = some true ∧ laws_eqImage.f k x0_0 x0_1 x0_2 x0_3 x0_0 x0_1 x0_2 x0_3 = some true ∧ laws_eqImage.f k x1_0 x1_1 x1_2 x1_3 x1_0 x1_1 x1_2 x1_3 = some true ∧ laws_eqBoxS.f k x2_0 x2_0 = some true ∧ laws_markImage.f k x0_0 x0_1 x0_2 x0_3 1 = some (k0, y0) ∧ laws_markImage.f k x1_0 x1_1 x1_2 x1_3 k0 = some (k1, y1) ∧ laws_markBoxS.f k x2_0 k1 = some (k2, y2) ∧ ¬ k2 < 0 ∧ laws_markImage.f k v0 v1 v2 v3 1 = some (m, u) ∧ laws_heldImage.f k v0 v1 v2 u 1 = some m ∧ ¬ m < 0)
noncomputable def laws_FnExactPatchImage.f (k : Nat) (a0_0 : Int) (a0_1 : Int) (a0_2 : Int) (l0_3 : List Int) (a1_0 : Int) (a1_1 : Int) (a1_2 : Int) (l1_3 : List Int) (l2_0 : List S137) : Option Bool := @ite _ (laws_FnExactPatchImage.Goes k a0_0 a0_1 a0_2 l0_3 a1_0 a1_1 a1_2 l1_3 l2_0) (Classical.propDecidable _) (some true) none
theorem laws_FnExactPatchImage.f_of {k : Nat} {a0_0 : Int} {a0_1 : Int} {a0_2 : Int} {l0_3 : List Int} {a1_0 : Int} {a1_1 : Int} {a1_2 : Int} {l1_3 : List Int} {l2_0 : List S137} (h : laws_FnExactPatchImage.Goes k a0_0 a0_1 a0_2 l0_3 a1_0 a1_1 a1_2 l1_3 l2_0) : laws_FnExactPatchImage.f k a0_0 a0_1 a0_2 l0_3 a1_0 a1_1 a1_2 l1_3 l2_0 = some true := by unfold laws_FnExactPatchImage.f; rw [if_pos h]
set_option maxHeartbeats 8000000 in
set_option maxRecDepth 100000 in
theorem laws_FnExactPatchImage.big0 (k : Nat) (a0_0 : Int) (a0_1 : Int) (a0_2 : Int) (A0_3 : Option Addr) (c0_3 : Nat) (l0_3 : List Int) (a1_0 : Int) (a1_1 : Int) (a1_2 : Int) (A1_3 : Option Addr) (c1_3 : Nat) (l1_3 : List Int) (A2_0 : Option Addr) (c2_0 : Nat) (l2_0 : List S137) (w : World) (hr0 : Kd.C (Kd.int .i64) w A0_3 l0_3.length l0_3) (hc0 : l0_3.length ≤ c0_3) (hr1 : Kd.C (Kd.int .i64) w A1_3 l1_3.length l1_3) (hc1 : l1_3.length ≤ c1_3) (hr2 : Kd.C k137 w A2_0 l2_0.length l2_0) (hc2 : l2_0.length ≤ c2_0) (s0 : Int) (hs0 : laws_szImage.f a0_0 a0_1 a0_2 l0_3 1048576 = some s0) (hn0 : s0 < 0) : Calls Try.prog 15 #[.agg #[.int .i64 a0_0, .int .i64 a0_1, .int .i64 a0_2, .slice A0_3 l0_3.length c0_3], .agg #[.int .i64 a1_0, .int .i64 a1_1, .int .i64 a1_2, .slice A1_3 l1_3.length c1_3], .slice A2_0 l2_0.length c2_0] w fun e w' => e = .returned (.bool true) ∧ Below w.heap.size w w' := by
  have HC0 := Aside0.mk hc0
  have HR0 := Aside0.mk hr0
  have HC1 := Aside0.mk hc1
  have HR1 := Aside0.mk hr1
  have HC2 := Aside0.mk hc2
  have HR2 := Aside0.mk hr2
  have HB := Aside0.mk (Below.refl w.heap.size w)
  clear hc0 hr0 hc1 hr1 hc2 hr2
  have hu0 := Try.underlying27
  have hu1 := Try.underlying24
  have HS0 := Aside0.mk hs0
  have dn0 : decide (s0 < 0) = true := decide_eq_true hn0
  clear hs0 hn0
  go_enter Try.func15, Try.ntmps15
  go_wp2_with (first
    | ((with_reducible refine gate_dst (N := 3) rfl ?_); refine box_event ?hg (N := 3) ?hd (cs := #[.int .i64 a0_0, .int .i64 a0_1, .int .i64 a0_2, .slice A0_3 l0_3.length c0_3]) (t := 24) ?hr ?_; (case hd => rfl); (case hg => rfl); (case hr => first | (go_simp; done) | (go_simp; rfl)); intro gb0 hg_ wb0 hbox hb; have Kgb0 := Aside0.mk hbox; have HB := Aside0.mk (below_then HB.out HB.out.size hb); clear hbox hb hg_)
    | ((with_reducible refine gate_dst (N := 4) rfl ?_); refine box_event ?hg (N := 4) ?hd (cs := #[.int .i64 a1_0, .int .i64 a1_1, .int .i64 a1_2, .slice A1_3 l1_3.length c1_3]) (t := 24) ?hr ?_; (case hd => rfl); (case hg => rfl); (case hr => first | (go_simp; done) | (go_simp; rfl)); intro gb1 hg_ wb1 hbox hb; have Kgb0 := Aside0.mk (blk_below Kgb0.out hb); have Kgb1 := Aside0.mk hbox; have HB := Aside0.mk (below_then HB.out HB.out.size hb); have cb0_0 : wb1.cell? ⟨gb0, 0, none⟩ = some (.int .i64 a0_0) := (blk_cell Kgb0.out 0).trans rfl; have cb0_1 : wb1.cell? ⟨gb0, 1, none⟩ = some (.int .i64 a0_1) := (blk_cell Kgb0.out 1).trans rfl; have cb0_2 : wb1.cell? ⟨gb0, 2, none⟩ = some (.int .i64 a0_2) := (blk_cell Kgb0.out 2).trans rfl; have cb0_3 : wb1.cell? ⟨gb0, 3, none⟩ = some (.slice A0_3 l0_3.length c0_3) := (blk_cell Kgb0.out 3).trans rfl; have cb1_0 : wb1.cell? ⟨gb1, 0, none⟩ = some (.int .i64 a1_0) := (blk_cell Kgb1.out 0).trans rfl; have cb1_1 : wb1.cell? ⟨gb1, 1, none⟩ = some (.int .i64 a1_1) := (blk_cell Kgb1.out 1).trans rfl; have cb1_2 : wb1.cell? ⟨gb1, 2, none⟩ = some (.int .i64 a1_2) := (blk_cell Kgb1.out 2).trans rfl; have cb1_3 : wb1.cell? ⟨gb1, 3, none⟩ = some (.slice A1_3 l1_3.length c1_3) := (blk_cell Kgb1.out 3).trans rfl; clear hbox hb hg_)
    | (go_at_call 20; (with_reducible refine (laws_szImage.calls a0_0 a0_1 a0_2 A0_3 c0_3 l0_3 1048576 s0 wb1 (Kd.C_below HR0.out HB.out) HC0.out HS0.out).mono ?_); rintro e wz0 ⟨rfl, hb⟩; have Kgb0 := Aside0.mk (blk_below Kgb0.out hb); have Kgb1 := Aside0.mk (blk_below Kgb1.out hb); have HB := Aside0.mk (below_then HB.out HB.out.size hb); have cb0_0 : wz0.cell? ⟨gb0, 0, none⟩ = some (.int .i64 a0_0) := (blk_cell Kgb0.out 0).trans rfl; have cb0_1 : wz0.cell? ⟨gb0, 1, none⟩ = some (.int .i64 a0_1) := (blk_cell Kgb0.out 1).trans rfl; have cb0_2 : wz0.cell? ⟨gb0, 2, none⟩ = some (.int .i64 a0_2) := (blk_cell Kgb0.out 2).trans rfl; have cb0_3 : wz0.cell? ⟨gb0, 3, none⟩ = some (.slice A0_3 l0_3.length c0_3) := (blk_cell Kgb0.out 3).trans rfl; have cb1_0 : wz0.cell? ⟨gb1, 0, none⟩ = some (.int .i64 a1_0) := (blk_cell Kgb1.out 0).trans rfl; have cb1_1 : wz0.cell? ⟨gb1, 1, none⟩ = some (.int .i64 a1_1) := (blk_cell Kgb1.out 1).trans rfl; have cb1_2 : wz0.cell? ⟨gb1, 2, none⟩ = some (.int .i64 a1_2) := (blk_cell Kgb1.out 2).trans rfl; have cb1_3 : wz0.cell? ⟨gb1, 3, none⟩ = some (.slice A1_3 l1_3.length c1_3) := (blk_cell Kgb1.out 3).trans rfl; clear hb))
  go_ret
  exact ⟨rfl, HB.out⟩
set_option maxHeartbeats 8000000 in
set_option maxRecDepth 100000 in
theorem laws_FnExactPatchImage.big1 (k : Nat) (a0_0 : Int) (a0_1 : Int) (a0_2 : Int) (A0_3 : Option Addr) (c0_3 : Nat) (l0_3 : List Int) (a1_0 : Int) (a1_1 : Int) (a1_2 : Int) (A1_3 : Option Addr) (c1_3 : Nat) (l1_3 : List Int) (A2_0 : Option Addr) (c2_0 : Nat) (l2_0 : List S137) (w : World) (hr0 : Kd.C (Kd.int .i64) w A0_3 l0_3.length l0_3) (hc0 : l0_3.length ≤ c0_3) (hr1 : Kd.C (Kd.int .i64) w A1_3 l1_3.length l1_3) (hc1 : l1_3.length ≤ c1_3) (hr2 : Kd.C k137 w A2_0 l2_0.length l2_0) (hc2 : l2_0.length ≤ c2_0) (s0 : Int) (s1 : Int) (hs0 : laws_szImage.f a0_0 a0_1 a0_2 l0_3 1048576 = some s0) (hn0 : ¬ s0 < 0) (hs1 : laws_szImage.f a1_0 a1_1 a1_2 l1_3 s0 = some s1) (hn1 : s1 < 0) : Calls Try.prog 15 #[.agg #[.int .i64 a0_0, .int .i64 a0_1, .int .i64 a0_2, .slice A0_3 l0_3.length c0_3], .agg #[.int .i64 a1_0, .int .i64 a1_1, .int .i64 a1_2, .slice A1_3 l1_3.length c1_3], .slice A2_0 l2_0.length c2_0] w fun e w' => e = .returned (.bool true) ∧ Below w.heap.size w w' := by
  have HC0 := Aside0.mk hc0
  have HR0 := Aside0.mk hr0
  have HC1 := Aside0.mk hc1
  have HR1 := Aside0.mk hr1
  have HC2 := Aside0.mk hc2
  have HR2 := Aside0.mk hr2
  have HB := Aside0.mk (Below.refl w.heap.size w)
  clear hc0 hr0 hc1 hr1 hc2 hr2
  have hu0 := Try.underlying27
  have hu1 := Try.underlying24
  have HS0 := Aside0.mk hs0
  have dn0 : decide (s0 < 0) = false := decide_eq_false hn0
  have HS1 := Aside0.mk hs1
  have dn1 : decide (s1 < 0) = true := decide_eq_true hn1
  clear hs0 hn0 hs1 hn1
  go_enter Try.func15, Try.ntmps15
  go_wp2_with (first
    | ((with_reducible refine gate_dst (N := 3) rfl ?_); refine box_event ?hg (N := 3) ?hd (cs := #[.int .i64 a0_0, .int .i64 a0_1, .int .i64 a0_2, .slice A0_3 l0_3.length c0_3]) (t := 24) ?hr ?_; (case hd => rfl); (case hg => rfl); (case hr => first | (go_simp; done) | (go_simp; rfl)); intro gb0 hg_ wb0 hbox hb; have Kgb0 := Aside0.mk hbox; have HB := Aside0.mk (below_then HB.out HB.out.size hb); clear hbox hb hg_)
    | ((with_reducible refine gate_dst (N := 4) rfl ?_); refine box_event ?hg (N := 4) ?hd (cs := #[.int .i64 a1_0, .int .i64 a1_1, .int .i64 a1_2, .slice A1_3 l1_3.length c1_3]) (t := 24) ?hr ?_; (case hd => rfl); (case hg => rfl); (case hr => first | (go_simp; done) | (go_simp; rfl)); intro gb1 hg_ wb1 hbox hb; have Kgb0 := Aside0.mk (blk_below Kgb0.out hb); have Kgb1 := Aside0.mk hbox; have HB := Aside0.mk (below_then HB.out HB.out.size hb); have cb0_0 : wb1.cell? ⟨gb0, 0, none⟩ = some (.int .i64 a0_0) := (blk_cell Kgb0.out 0).trans rfl; have cb0_1 : wb1.cell? ⟨gb0, 1, none⟩ = some (.int .i64 a0_1) := (blk_cell Kgb0.out 1).trans rfl; have cb0_2 : wb1.cell? ⟨gb0, 2, none⟩ = some (.int .i64 a0_2) := (blk_cell Kgb0.out 2).trans rfl; have cb0_3 : wb1.cell? ⟨gb0, 3, none⟩ = some (.slice A0_3 l0_3.length c0_3) := (blk_cell Kgb0.out 3).trans rfl; have cb1_0 : wb1.cell? ⟨gb1, 0, none⟩ = some (.int .i64 a1_0) := (blk_cell Kgb1.out 0).trans rfl; have cb1_1 : wb1.cell? ⟨gb1, 1, none⟩ = some (.int .i64 a1_1) := (blk_cell Kgb1.out 1).trans rfl; have cb1_2 : wb1.cell? ⟨gb1, 2, none⟩ = some (.int .i64 a1_2) := (blk_cell Kgb1.out 2).trans rfl; have cb1_3 : wb1.cell? ⟨gb1, 3, none⟩ = some (.slice A1_3 l1_3.length c1_3) := (blk_cell Kgb1.out 3).trans rfl; clear hbox hb hg_)
    | (go_at_call 20; (with_reducible refine (laws_szImage.calls a0_0 a0_1 a0_2 A0_3 c0_3 l0_3 1048576 s0 wb1 (Kd.C_below HR0.out HB.out) HC0.out HS0.out).mono ?_); rintro e wz0 ⟨rfl, hb⟩; have Kgb0 := Aside0.mk (blk_below Kgb0.out hb); have Kgb1 := Aside0.mk (blk_below Kgb1.out hb); have HB := Aside0.mk (below_then HB.out HB.out.size hb); have cb0_0 : wz0.cell? ⟨gb0, 0, none⟩ = some (.int .i64 a0_0) := (blk_cell Kgb0.out 0).trans rfl; have cb0_1 : wz0.cell? ⟨gb0, 1, none⟩ = some (.int .i64 a0_1) := (blk_cell Kgb0.out 1).trans rfl; have cb0_2 : wz0.cell? ⟨gb0, 2, none⟩ = some (.int .i64 a0_2) := (blk_cell Kgb0.out 2).trans rfl; have cb0_3 : wz0.cell? ⟨gb0, 3, none⟩ = some (.slice A0_3 l0_3.length c0_3) := (blk_cell Kgb0.out 3).trans rfl; have cb1_0 : wz0.cell? ⟨gb1, 0, none⟩ = some (.int .i64 a1_0) := (blk_cell Kgb1.out 0).trans rfl; have cb1_1 : wz0.cell? ⟨gb1, 1, none⟩ = some (.int .i64 a1_1) := (blk_cell Kgb1.out 1).trans rfl; have cb1_2 : wz0.cell? ⟨gb1, 2, none⟩ = some (.int .i64 a1_2) := (blk_cell Kgb1.out 2).trans rfl; have cb1_3 : wz0.cell? ⟨gb1, 3, none⟩ = some (.slice A1_3 l1_3.length c1_3) := (blk_cell Kgb1.out 3).trans rfl; clear hb)
    | (go_at_call 20; (with_reducible refine (laws_szImage.calls a1_0 a1_1 a1_2 A1_3 c1_3 l1_3 s0 s1 wz0 (Kd.C_below HR1.out HB.out) HC1.out HS1.out).mono ?_); rintro e wz1 ⟨rfl, hb⟩; have Kgb0 := Aside0.mk (blk_below Kgb0.out hb); have Kgb1 := Aside0.mk (blk_below Kgb1.out hb); have HB := Aside0.mk (below_then HB.out HB.out.size hb); have cb0_0 : wz1.cell? ⟨gb0, 0, none⟩ = some (.int .i64 a0_0) := (blk_cell Kgb0.out 0).trans rfl; have cb0_1 : wz1.cell? ⟨gb0, 1, none⟩ = some (.int .i64 a0_1) := (blk_cell Kgb0.out 1).trans rfl; have cb0_2 : wz1.cell? ⟨gb0, 2, none⟩ = some (.int .i64 a0_2) := (blk_cell Kgb0.out 2).trans rfl; have cb0_3 : wz1.cell? ⟨gb0, 3, none⟩ = some (.slice A0_3 l0_3.length c0_3) := (blk_cell Kgb0.out 3).trans rfl; have cb1_0 : wz1.cell? ⟨gb1, 0, none⟩ = some (.int .i64 a1_0) := (blk_cell Kgb1.out 0).trans rfl; have cb1_1 : wz1.cell? ⟨gb1, 1, none⟩ = some (.int .i64 a1_1) := (blk_cell Kgb1.out 1).trans rfl; have cb1_2 : wz1.cell? ⟨gb1, 2, none⟩ = some (.int .i64 a1_2) := (blk_cell Kgb1.out 2).trans rfl; have cb1_3 : wz1.cell? ⟨gb1, 3, none⟩ = some (.slice A1_3 l1_3.length c1_3) := (blk_cell Kgb1.out 3).trans rfl; clear hb))
  go_ret
  exact ⟨rfl, HB.out⟩
set_option maxHeartbeats 8000000 in
set_option maxRecDepth 100000 in
theorem laws_FnExactPatchImage.big2 (k : Nat) (a0_0 : Int) (a0_1 : Int) (a0_2 : Int) (A0_3 : Option Addr) (c0_3 : Nat) (l0_3 : List Int) (a1_0 : Int) (a1_1 : Int) (a1_2 : Int) (A1_3 : Option Addr) (c1_3 : Nat) (l1_3 : List Int) (A2_0 : Option Addr) (c2_0 : Nat) (l2_0 : List S137) (w : World) (hr0 : Kd.C (Kd.int .i64) w A0_3 l0_3.length l0_3) (hc0 : l0_3.length ≤ c0_3) (hr1 : Kd.C (Kd.int .i64) w A1_3 l1_3.length l1_3) (hc1 : l1_3.length ≤ c1_3) (hr2 : Kd.C k137 w A2_0 l2_0.length l2_0) (hc2 : l2_0.length ≤ c2_0) (s0 : Int) (s1 : Int) (s2 : Int) (hs0 : laws_szImage.f a0_0 a0_1 a0_2 l0_3 1048576 = some s0) (hn0 : ¬ s0 < 0) (hs1 : laws_szImage.f a1_0 a1_1 a1_2 l1_3 s0 = some s1) (hn1 : ¬ s1 < 0) (hs2 : laws_szBoxS.f l2_0 s1 = some s2) (hn2 : s2 < 0) : Calls Try.prog 15 #[.agg #[.int .i64 a0_0, .int .i64 a0_1, .int .i64 a0_2, .slice A0_3 l0_3.length c0_3], .agg #[.int .i64 a1_0, .int .i64 a1_1, .int .i64 a1_2, .slice A1_3 l1_3.length c1_3], .slice A2_0 l2_0.length c2_0] w fun e w' => e = .returned (.bool true) ∧ Below w.heap.size w w' := by
  have HC0 := Aside0.mk hc0
  have HR0 := Aside0.mk hr0
  have HC1 := Aside0.mk hc1
  have HR1 := Aside0.mk hr1
  have HC2 := Aside0.mk hc2
  have HR2 := Aside0.mk hr2
  have HB := Aside0.mk (Below.refl w.heap.size w)
  clear hc0 hr0 hc1 hr1 hc2 hr2
  have hu0 := Try.underlying27
  have hu1 := Try.underlying24
  have HS0 := Aside0.mk hs0
  have dn0 : decide (s0 < 0) = false := decide_eq_false hn0
  have HS1 := Aside0.mk hs1
  have dn1 : decide (s1 < 0) = false := decide_eq_false hn1
  have HS2 := Aside0.mk hs2
  have dn2 : decide (s2 < 0) = true := decide_eq_true hn2
  clear hs0 hn0 hs1 hn1 hs2 hn2
  go_enter Try.func15, Try.ntmps15
  go_wp2_with (first
    | ((with_reducible refine gate_dst (N := 3) rfl ?_); refine box_event ?hg (N := 3) ?hd (cs := #[.int .i64 a0_0, .int .i64 a0_1, .int .i64 a0_2, .slice A0_3 l0_3.length c0_3]) (t := 24) ?hr ?_; (case hd => rfl); (case hg => rfl); (case hr => first | (go_simp; done) | (go_simp; rfl)); intro gb0 hg_ wb0 hbox hb; have Kgb0 := Aside0.mk hbox; have HB := Aside0.mk (below_then HB.out HB.out.size hb); clear hbox hb hg_)
    | ((with_reducible refine gate_dst (N := 4) rfl ?_); refine box_event ?hg (N := 4) ?hd (cs := #[.int .i64 a1_0, .int .i64 a1_1, .int .i64 a1_2, .slice A1_3 l1_3.length c1_3]) (t := 24) ?hr ?_; (case hd => rfl); (case hg => rfl); (case hr => first | (go_simp; done) | (go_simp; rfl)); intro gb1 hg_ wb1 hbox hb; have Kgb0 := Aside0.mk (blk_below Kgb0.out hb); have Kgb1 := Aside0.mk hbox; have HB := Aside0.mk (below_then HB.out HB.out.size hb); have cb0_0 : wb1.cell? ⟨gb0, 0, none⟩ = some (.int .i64 a0_0) := (blk_cell Kgb0.out 0).trans rfl; have cb0_1 : wb1.cell? ⟨gb0, 1, none⟩ = some (.int .i64 a0_1) := (blk_cell Kgb0.out 1).trans rfl; have cb0_2 : wb1.cell? ⟨gb0, 2, none⟩ = some (.int .i64 a0_2) := (blk_cell Kgb0.out 2).trans rfl; have cb0_3 : wb1.cell? ⟨gb0, 3, none⟩ = some (.slice A0_3 l0_3.length c0_3) := (blk_cell Kgb0.out 3).trans rfl; have cb1_0 : wb1.cell? ⟨gb1, 0, none⟩ = some (.int .i64 a1_0) := (blk_cell Kgb1.out 0).trans rfl; have cb1_1 : wb1.cell? ⟨gb1, 1, none⟩ = some (.int .i64 a1_1) := (blk_cell Kgb1.out 1).trans rfl; have cb1_2 : wb1.cell? ⟨gb1, 2, none⟩ = some (.int .i64 a1_2) := (blk_cell Kgb1.out 2).trans rfl; have cb1_3 : wb1.cell? ⟨gb1, 3, none⟩ = some (.slice A1_3 l1_3.length c1_3) := (blk_cell Kgb1.out 3).trans rfl; clear hbox hb hg_)
    | (go_at_call 20; (with_reducible refine (laws_szImage.calls a0_0 a0_1 a0_2 A0_3 c0_3 l0_3 1048576 s0 wb1 (Kd.C_below HR0.out HB.out) HC0.out HS0.out).mono ?_); rintro e wz0 ⟨rfl, hb⟩; have Kgb0 := Aside0.mk (blk_below Kgb0.out hb); have Kgb1 := Aside0.mk (blk_below Kgb1.out hb); have HB := Aside0.mk (below_then HB.out HB.out.size hb); have cb0_0 : wz0.cell? ⟨gb0, 0, none⟩ = some (.int .i64 a0_0) := (blk_cell Kgb0.out 0).trans rfl; have cb0_1 : wz0.cell? ⟨gb0, 1, none⟩ = some (.int .i64 a0_1) := (blk_cell Kgb0.out 1).trans rfl; have cb0_2 : wz0.cell? ⟨gb0, 2, none⟩ = some (.int .i64 a0_2) := (blk_cell Kgb0.out 2).trans rfl; have cb0_3 : wz0.cell? ⟨gb0, 3, none⟩ = some (.slice A0_3 l0_3.length c0_3) := (blk_cell Kgb0.out 3).trans rfl; have cb1_0 : wz0.cell? ⟨gb1, 0, none⟩ = some (.int .i64 a1_0) := (blk_cell Kgb1.out 0).trans rfl; have cb1_1 : wz0.cell? ⟨gb1, 1, none⟩ = some (.int .i64 a1_1) := (blk_cell Kgb1.out 1).trans rfl; have cb1_2 : wz0.cell? ⟨gb1, 2, none⟩ = some (.int .i64 a1_2) := (blk_cell Kgb1.out 2).trans rfl; have cb1_3 : wz0.cell? ⟨gb1, 3, none⟩ = some (.slice A1_3 l1_3.length c1_3) := (blk_cell Kgb1.out 3).trans rfl; clear hb)
    | (go_at_call 20; (with_reducible refine (laws_szImage.calls a1_0 a1_1 a1_2 A1_3 c1_3 l1_3 s0 s1 wz0 (Kd.C_below HR1.out HB.out) HC1.out HS1.out).mono ?_); rintro e wz1 ⟨rfl, hb⟩; have Kgb0 := Aside0.mk (blk_below Kgb0.out hb); have Kgb1 := Aside0.mk (blk_below Kgb1.out hb); have HB := Aside0.mk (below_then HB.out HB.out.size hb); have cb0_0 : wz1.cell? ⟨gb0, 0, none⟩ = some (.int .i64 a0_0) := (blk_cell Kgb0.out 0).trans rfl; have cb0_1 : wz1.cell? ⟨gb0, 1, none⟩ = some (.int .i64 a0_1) := (blk_cell Kgb0.out 1).trans rfl; have cb0_2 : wz1.cell? ⟨gb0, 2, none⟩ = some (.int .i64 a0_2) := (blk_cell Kgb0.out 2).trans rfl; have cb0_3 : wz1.cell? ⟨gb0, 3, none⟩ = some (.slice A0_3 l0_3.length c0_3) := (blk_cell Kgb0.out 3).trans rfl; have cb1_0 : wz1.cell? ⟨gb1, 0, none⟩ = some (.int .i64 a1_0) := (blk_cell Kgb1.out 0).trans rfl; have cb1_1 : wz1.cell? ⟨gb1, 1, none⟩ = some (.int .i64 a1_1) := (blk_cell Kgb1.out 1).trans rfl; have cb1_2 : wz1.cell? ⟨gb1, 2, none⟩ = some (.int .i64 a1_2) := (blk_cell Kgb1.out 2).trans rfl; have cb1_3 : wz1.cell? ⟨gb1, 3, none⟩ = some (.slice A1_3 l1_3.length c1_3) := (blk_cell Kgb1.out 3).trans rfl; clear hb)
    | (go_at_call 71; (with_reducible refine (laws_szBoxS.calls A2_0 c2_0 l2_0 s1 s2 wz1 (Kd.C_below HR2.out HB.out) HC2.out HS2.out).mono ?_); rintro e wz2 ⟨rfl, hb⟩; replace hb := hb.below; have Kgb0 := Aside0.mk (blk_below Kgb0.out hb); have Kgb1 := Aside0.mk (blk_below Kgb1.out hb); have HB := Aside0.mk (below_then HB.out HB.out.size hb); have cb0_0 : wz2.cell? ⟨gb0, 0, none⟩ = some (.int .i64 a0_0) := (blk_cell Kgb0.out 0).trans rfl; have cb0_1 : wz2.cell? ⟨gb0, 1, none⟩ = some (.int .i64 a0_1) := (blk_cell Kgb0.out 1).trans rfl; have cb0_2 : wz2.cell? ⟨gb0, 2, none⟩ = some (.int .i64 a0_2) := (blk_cell Kgb0.out 2).trans rfl; have cb0_3 : wz2.cell? ⟨gb0, 3, none⟩ = some (.slice A0_3 l0_3.length c0_3) := (blk_cell Kgb0.out 3).trans rfl; have cb1_0 : wz2.cell? ⟨gb1, 0, none⟩ = some (.int .i64 a1_0) := (blk_cell Kgb1.out 0).trans rfl; have cb1_1 : wz2.cell? ⟨gb1, 1, none⟩ = some (.int .i64 a1_1) := (blk_cell Kgb1.out 1).trans rfl; have cb1_2 : wz2.cell? ⟨gb1, 2, none⟩ = some (.int .i64 a1_2) := (blk_cell Kgb1.out 2).trans rfl; have cb1_3 : wz2.cell? ⟨gb1, 3, none⟩ = some (.slice A1_3 l1_3.length c1_3) := (blk_cell Kgb1.out 3).trans rfl; clear hb))
  go_ret
  exact ⟨rfl, HB.out⟩
set_option maxHeartbeats 8000000 in
set_option maxRecDepth 100000 in
theorem laws_FnExactPatchImage.way (k : Nat) (a0_0 : Int) (a0_1 : Int) (a0_2 : Int) (A0_3 : Option Addr) (c0_3 : Nat) (l0_3 : List Int) (a1_0 : Int) (a1_1 : Int) (a1_2 : Int) (A1_3 : Option Addr) (c1_3 : Nat) (l1_3 : List Int) (A2_0 : Option Addr) (c2_0 : Nat) (l2_0 : List S137) (w : World) (hr0 : Kd.C (Kd.int .i64) w A0_3 l0_3.length l0_3) (hc0 : l0_3.length ≤ c0_3) (hr1 : Kd.C (Kd.int .i64) w A1_3 l1_3.length l1_3) (hc1 : l1_3.length ≤ c1_3) (hr2 : Kd.C k137 w A2_0 l2_0.length l2_0) (hc2 : l2_0.length ≤ c2_0) (s0 : Int) (s1 : Int) (s2 : Int) (x0_0 : Int) (x0_1 : Int) (x0_2 : Int) (x0_3 : List Int) (x1_0 : Int) (x1_1 : Int) (x1_2 : Int) (x1_3 : List Int) (x2_0 : List S47) (v0 : Int) (v1 : Int) (v2 : Int) (v3 : List Int) (vok : Bool) (k0 : Int) (y0 : List Int) (k1 : Int) (y1 : List Int) (k2 : Int) (y2 : List S47) (m : Int) (u : List Int) (HS0 : laws_szImage.f a0_0 a0_1 a0_2 l0_3 1048576 = some s0) (HN0 : ¬ s0 < 0) (HS1 : laws_szImage.f a1_0 a1_1 a1_2 l1_3 s0 = some s1) (HN1 : ¬ s1 < 0) (HS2 : laws_szBoxS.f l2_0 s1 = some s2) (HN2 : ¬ s2 < 0) (HT0 : laws_toImage.f k a0_0 a0_1 a0_2 l0_3 = some (x0_0, x0_1, x0_2, x0_3)) (HT1 : laws_toImage.f k a1_0 a1_1 a1_2 l1_3 = some (x1_0, x1_1, x1_2, x1_3)) (HT2 : laws_toBoxS.f k l2_0 = some x2_0) (HSP : spec_PatchImage.f k x0_0 x0_1 x0_2 x0_3 x1_0 x1_1 x1_2 x1_3 x2_0 = some (v0, v1, v2, v3, vok)) (HIM : impl_PatchImage.f k x0_0 x0_1 x0_2 x0_3 x1_0 x1_1 x1_2 x1_3 x2_0 = some (v0, v1, v2, v3, vok)) (HEV : laws_eqImage.f k v0 v1 v2 v3 v0 v1 v2 v3 = some true) (HE0 : laws_eqImage.f k x0_0 x0_1 x0_2 x0_3 x0_0 x0_1 x0_2 x0_3 = some true) (HE1 : laws_eqImage.f k x1_0 x1_1 x1_2 x1_3 x1_0 x1_1 x1_2 x1_3 = some true) (HE2 : laws_eqBoxS.f k x2_0 x2_0 = some true) (HM0 : laws_markImage.f k x0_0 x0_1 x0_2 x0_3 1 = some (k0, y0)) (HM1 : laws_markImage.f k x1_0 x1_1 x1_2 x1_3 k0 = some (k1, y1)) (HM2 : laws_markBoxS.f k x2_0 k1 = some (k2, y2)) (HKN : ¬ k2 < 0) (HMR : laws_markImage.f k v0 v1 v2 v3 1 = some (m, u)) (HHR : laws_heldImage.f k v0 v1 v2 u 1 = some m) (HMN : ¬ m < 0) : Calls Try.prog 15 #[.agg #[.int .i64 a0_0, .int .i64 a0_1, .int .i64 a0_2, .slice A0_3 l0_3.length c0_3], .agg #[.int .i64 a1_0, .int .i64 a1_1, .int .i64 a1_2, .slice A1_3 l1_3.length c1_3], .slice A2_0 l2_0.length c2_0] w fun e w' => e = .returned (.bool true) ∧ Below w.heap.size w w' := by
  have HC0 := Aside0.mk hc0
  have HR0 := Aside0.mk hr0
  have HC1 := Aside0.mk hc1
  have HR1 := Aside0.mk hr1
  have HC2 := Aside0.mk hc2
  have HR2 := Aside0.mk hr2
  have HB := Aside0.mk (Below.refl w.heap.size w)
  clear hc0 hr0 hc1 hr1 hc2 hr2
  have hu0 := Try.underlying27
  have hu1 := Try.underlying24
  replace HS0 := Aside0.mk HS0
  replace HN0 := Aside0.mk HN0
  replace HS1 := Aside0.mk HS1
  replace HN1 := Aside0.mk HN1
  replace HS2 := Aside0.mk HS2
  replace HN2 := Aside0.mk HN2
  replace HT0 := Aside0.mk HT0
  replace HT1 := Aside0.mk HT1
  replace HT2 := Aside0.mk HT2
  replace HSP := Aside0.mk HSP
  replace HIM := Aside0.mk HIM
  replace HEV := Aside0.mk HEV
  replace HE0 := Aside0.mk HE0
  replace HE1 := Aside0.mk HE1
  replace HE2 := Aside0.mk HE2
  replace HM0 := Aside0.mk HM0
  replace HM1 := Aside0.mk HM1
  replace HM2 := Aside0.mk HM2
  replace HKN := Aside0.mk HKN
  replace HMR := Aside0.mk HMR
  replace HHR := Aside0.mk HHR
  replace HMN := Aside0.mk HMN
  have dn0 : decide (s0 < 0) = false := decide_eq_false HN0.out
  have dn1 : decide (s1 < 0) = false := decide_eq_false HN1.out
  have dn2 : decide (s2 < 0) = false := decide_eq_false HN2.out
  have dk : decide (k2 < 0) = false := decide_eq_false HKN.out
  have dm : decide (m < 0) = false := decide_eq_false HMN.out
  go_enter Try.func15, Try.ntmps15
  go_upto_region 11 with (first
    | ((with_reducible refine gate_dst (N := 3) rfl ?_); refine box_event ?hg (N := 3) ?hd (cs := #[.int .i64 a0_0, .int .i64 a0_1, .int .i64 a0_2, .slice A0_3 l0_3.length c0_3]) (t := 24) ?hr ?_; (case hd => rfl); (case hg => rfl); (case hr => first | (go_simp; done) | (go_simp; rfl)); intro gb0 hg_ wb0 hbox hb; have Kgb0 := Aside0.mk hbox; have HB := Aside0.mk (below_then HB.out HB.out.size hb); clear hbox hb hg_)
    | ((with_reducible refine gate_dst (N := 4) rfl ?_); refine box_event ?hg (N := 4) ?hd (cs := #[.int .i64 a1_0, .int .i64 a1_1, .int .i64 a1_2, .slice A1_3 l1_3.length c1_3]) (t := 24) ?hr ?_; (case hd => rfl); (case hg => rfl); (case hr => first | (go_simp; done) | (go_simp; rfl)); intro gb1 hg_ wb1 hbox hb; have Kgb0 := Aside0.mk (blk_below Kgb0.out hb); have Kgb1 := Aside0.mk hbox; have HB := Aside0.mk (below_then HB.out HB.out.size hb); have cb0_0 : wb1.cell? ⟨gb0, 0, none⟩ = some (.int .i64 a0_0) := (blk_cell Kgb0.out 0).trans rfl; have cb0_1 : wb1.cell? ⟨gb0, 1, none⟩ = some (.int .i64 a0_1) := (blk_cell Kgb0.out 1).trans rfl; have cb0_2 : wb1.cell? ⟨gb0, 2, none⟩ = some (.int .i64 a0_2) := (blk_cell Kgb0.out 2).trans rfl; have cb0_3 : wb1.cell? ⟨gb0, 3, none⟩ = some (.slice A0_3 l0_3.length c0_3) := (blk_cell Kgb0.out 3).trans rfl; have cb1_0 : wb1.cell? ⟨gb1, 0, none⟩ = some (.int .i64 a1_0) := (blk_cell Kgb1.out 0).trans rfl; have cb1_1 : wb1.cell? ⟨gb1, 1, none⟩ = some (.int .i64 a1_1) := (blk_cell Kgb1.out 1).trans rfl; have cb1_2 : wb1.cell? ⟨gb1, 2, none⟩ = some (.int .i64 a1_2) := (blk_cell Kgb1.out 2).trans rfl; have cb1_3 : wb1.cell? ⟨gb1, 3, none⟩ = some (.slice A1_3 l1_3.length c1_3) := (blk_cell Kgb1.out 3).trans rfl; clear hbox hb hg_)
    | (go_at_call 20; (with_reducible refine (laws_szImage.calls a0_0 a0_1 a0_2 A0_3 c0_3 l0_3 1048576 s0 wb1 (Kd.C_below HR0.out HB.out) HC0.out HS0.out).mono ?_); rintro e wz0 ⟨rfl, hb⟩; have Kgb0 := Aside0.mk (blk_below Kgb0.out hb); have Kgb1 := Aside0.mk (blk_below Kgb1.out hb); have HB := Aside0.mk (below_then HB.out HB.out.size hb); have cb0_0 : wz0.cell? ⟨gb0, 0, none⟩ = some (.int .i64 a0_0) := (blk_cell Kgb0.out 0).trans rfl; have cb0_1 : wz0.cell? ⟨gb0, 1, none⟩ = some (.int .i64 a0_1) := (blk_cell Kgb0.out 1).trans rfl; have cb0_2 : wz0.cell? ⟨gb0, 2, none⟩ = some (.int .i64 a0_2) := (blk_cell Kgb0.out 2).trans rfl; have cb0_3 : wz0.cell? ⟨gb0, 3, none⟩ = some (.slice A0_3 l0_3.length c0_3) := (blk_cell Kgb0.out 3).trans rfl; have cb1_0 : wz0.cell? ⟨gb1, 0, none⟩ = some (.int .i64 a1_0) := (blk_cell Kgb1.out 0).trans rfl; have cb1_1 : wz0.cell? ⟨gb1, 1, none⟩ = some (.int .i64 a1_1) := (blk_cell Kgb1.out 1).trans rfl; have cb1_2 : wz0.cell? ⟨gb1, 2, none⟩ = some (.int .i64 a1_2) := (blk_cell Kgb1.out 2).trans rfl; have cb1_3 : wz0.cell? ⟨gb1, 3, none⟩ = some (.slice A1_3 l1_3.length c1_3) := (blk_cell Kgb1.out 3).trans rfl; clear hb)
    | (go_at_call 20; (with_reducible refine (laws_szImage.calls a1_0 a1_1 a1_2 A1_3 c1_3 l1_3 s0 s1 wz0 (Kd.C_below HR1.out HB.out) HC1.out HS1.out).mono ?_); rintro e wz1 ⟨rfl, hb⟩; have Kgb0 := Aside0.mk (blk_below Kgb0.out hb); have Kgb1 := Aside0.mk (blk_below Kgb1.out hb); have HB := Aside0.mk (below_then HB.out HB.out.size hb); have cb0_0 : wz1.cell? ⟨gb0, 0, none⟩ = some (.int .i64 a0_0) := (blk_cell Kgb0.out 0).trans rfl; have cb0_1 : wz1.cell? ⟨gb0, 1, none⟩ = some (.int .i64 a0_1) := (blk_cell Kgb0.out 1).trans rfl; have cb0_2 : wz1.cell? ⟨gb0, 2, none⟩ = some (.int .i64 a0_2) := (blk_cell Kgb0.out 2).trans rfl; have cb0_3 : wz1.cell? ⟨gb0, 3, none⟩ = some (.slice A0_3 l0_3.length c0_3) := (blk_cell Kgb0.out 3).trans rfl; have cb1_0 : wz1.cell? ⟨gb1, 0, none⟩ = some (.int .i64 a1_0) := (blk_cell Kgb1.out 0).trans rfl; have cb1_1 : wz1.cell? ⟨gb1, 1, none⟩ = some (.int .i64 a1_1) := (blk_cell Kgb1.out 1).trans rfl; have cb1_2 : wz1.cell? ⟨gb1, 2, none⟩ = some (.int .i64 a1_2) := (blk_cell Kgb1.out 2).trans rfl; have cb1_3 : wz1.cell? ⟨gb1, 3, none⟩ = some (.slice A1_3 l1_3.length c1_3) := (blk_cell Kgb1.out 3).trans rfl; clear hb)
    | (go_at_call 71; (with_reducible refine (laws_szBoxS.calls A2_0 c2_0 l2_0 s1 s2 wz1 (Kd.C_below HR2.out HB.out) HC2.out HS2.out).mono ?_); rintro e wz2 ⟨rfl, hb⟩; replace hb := hb.below; have Kgb0 := Aside0.mk (blk_below Kgb0.out hb); have Kgb1 := Aside0.mk (blk_below Kgb1.out hb); have HB := Aside0.mk (below_then HB.out HB.out.size hb); have cb0_0 : wz2.cell? ⟨gb0, 0, none⟩ = some (.int .i64 a0_0) := (blk_cell Kgb0.out 0).trans rfl; have cb0_1 : wz2.cell? ⟨gb0, 1, none⟩ = some (.int .i64 a0_1) := (blk_cell Kgb0.out 1).trans rfl; have cb0_2 : wz2.cell? ⟨gb0, 2, none⟩ = some (.int .i64 a0_2) := (blk_cell Kgb0.out 2).trans rfl; have cb0_3 : wz2.cell? ⟨gb0, 3, none⟩ = some (.slice A0_3 l0_3.length c0_3) := (blk_cell Kgb0.out 3).trans rfl; have cb1_0 : wz2.cell? ⟨gb1, 0, none⟩ = some (.int .i64 a1_0) := (blk_cell Kgb1.out 0).trans rfl; have cb1_1 : wz2.cell? ⟨gb1, 1, none⟩ = some (.int .i64 a1_1) := (blk_cell Kgb1.out 1).trans rfl; have cb1_2 : wz2.cell? ⟨gb1, 2, none⟩ = some (.int .i64 a1_2) := (blk_cell Kgb1.out 2).trans rfl; have cb1_3 : wz2.cell? ⟨gb1, 3, none⟩ = some (.slice A1_3 l1_3.length c1_3) := (blk_cell Kgb1.out 3).trans rfl; clear hb))
  have HBSw := Aside0.mk HB.out.size
  have HZw := Aside0.mk (Nat.le_refl wz2.heap.size)
  replace HB := Aside0.mk (below_drew HB.out)
  replace Kgb0 := Aside0.mk (blk_below Kgb0.out (below_drew (Below.refl _ _)))
  replace Kgb1 := Aside0.mk (blk_below Kgb1.out (below_drew (Below.refl _ _)))
  replace HZw := Aside0.mk (show wz2.heap.size ≤ wz2.drew.heap.size from HZw.out)
  have QKgb0 := Aside0.mk (show gb0 < wz2.heap.size from blk_lt Kgb0.out)
  have QKgb1 := Aside0.mk (show gb1 < wz2.heap.size from blk_lt Kgb1.out)
  refine start_ (n := 13) (S := fun w' => w'.cell? ⟨gb0, 0, none⟩ = some (.int .i64 a0_0) ∧ w'.cell? ⟨gb0, 1, none⟩ = some (.int .i64 a0_1) ∧ w'.cell? ⟨gb0, 2, none⟩ = some (.int .i64 a0_2) ∧ w'.cell? ⟨gb0, 3, none⟩ = some (.slice A0_3 l0_3.length c0_3) ∧ w'.cell? ⟨gb1, 0, none⟩ = some (.int .i64 a1_0) ∧ w'.cell? ⟨gb1, 1, none⟩ = some (.int .i64 a1_1) ∧ w'.cell? ⟨gb1, 2, none⟩ = some (.int .i64 a1_2) ∧ w'.cell? ⟨gb1, 3, none⟩ = some (.slice A1_3 l1_3.length c1_3)) (ds := []) #[false, false, false, false, false, false, false, false, false, false, false, false, false] (by kernel_rfl) rfl rfl ⟨((blk_cell Kgb0.out 0).trans rfl), ((blk_cell Kgb0.out 1).trans rfl), ((blk_cell Kgb0.out 2).trans rfl), ((blk_cell Kgb0.out 3).trans rfl), ((blk_cell Kgb1.out 0).trans rfl), ((blk_cell Kgb1.out 1).trans rfl), ((blk_cell Kgb1.out 2).trans rfl), ((blk_cell Kgb1.out 3).trans rfl)⟩ (fun hHeld => ?_)
  refine pure_ (i := 4) (N := some 40) (v := ?_) (a' := ?_) #[false, false, false, false, true, false, false, false, false, false, false, false, false] rfl rfl (by kernel_rfl) (fun _ _ _ h => h) (Or.inl ⟨by rfl, ?_⟩) ?_ ?_
  rotate_left
  · intro w'
    go_simp
    with_reducible rfl
  rotate_left
  · simp only [Act.put, List.setIfInBounds_toArray, List.set_cons_zero, List.set_cons_succ, i64_w, i32_w]
    rfl
  refine take_ (i := 0) (N := some 36) (v := ?_) (a' := ?_) #[true, false, false, false, true, false, false, false, false, false, false, false, false] rfl rfl (by kernel_rfl) (fun _ _ _ h => h) (Or.inl ⟨by rfl, ?_⟩) hHeld ?_ ?_
  rotate_left
  · rintro w' ⟨s0, s1, s2, s3, s4, s5, s6, s7⟩
    go_simp
    with_reducible rfl
  rotate_left
  · simp only [Act.put, List.setIfInBounds_toArray, List.set_cons_zero, List.set_cons_succ, i64_w, i32_w]
    rfl
  refine take_ (i := 2) (N := some 38) (v := ?_) (a' := ?_) #[true, false, true, false, true, false, false, false, false, false, false, false, false] rfl rfl (by kernel_rfl) (fun _ _ _ h => h) (Or.inl ⟨by rfl, ?_⟩) hHeld ?_ ?_
  rotate_left
  · rintro w' ⟨s0, s1, s2, s3, s4, s5, s6, s7⟩
    go_simp
    with_reducible rfl
  rotate_left
  · simp only [Act.put, List.setIfInBounds_toArray, List.set_cons_zero, List.set_cons_succ, i64_w, i32_w]
    rfl
  refine join_ (σ := Value × Value × Value × Value × Nat) 2 #[true, true, true, true, true, true, true, true, true, true, true, false, false] (fun s_ => [(37, .agg #[.int .i64 x0_0, .int .i64 x0_1, .int .i64 x0_2, s_.1]), (39, .agg #[.int .i64 x1_0, .int .i64 x1_1, .int .i64 x1_2, s_.2.1]), (41, s_.2.2.1), (42, .tuple #[.agg #[.int .i64 v0, .int .i64 v1, .int .i64 v2, s_.2.2.2.1], .bool vok]), (35, .tuple #[.agg #[.int .i64 v0, .int .i64 v1, .int .i64 v2, s_.2.2.2.1], .bool vok]), (43, .agg #[.int .i64 v0, .int .i64 v1, .int .i64 v2, s_.2.2.2.1]), (44, .bool vok), (8, .pointer (some ⟨s_.2.2.2.2, 0, none⟩))]) (fun s_ w' => Kd.R (Kd.int .i64) 3 w' w.heap.size (fun k_ => wz2.heap.size ≤ k_ ∧ k_ < w'.heap.size) (s_.2.2.2.1) v3 ∧ w'.heap[s_.2.2.2.2]? = some (.cells #[.int .i64 0, .int .i64 0, .int .i64 0, .slice none 0 0] 27 (0, 0)) ∧ wz2.heap.size ≤ s_.2.2.2.2 ∧ w'.heap[gb0]? = some (.cells #[.int .i64 a0_0, .int .i64 a0_1, .int .i64 a0_2, .slice A0_3 l0_3.length c0_3] 24 (0, 0)) ∧ w'.heap[gb1]? = some (.cells #[.int .i64 a1_0, .int .i64 a1_1, .int .i64 a1_2, .slice A1_3 l1_3.length c1_3] 24 (0, 0)) ∧ Below w.heap.size w w' ∧ wz2.heap.size ≤ w'.heap.size) ?_ ?_
  rotate_left
  · intro hCont
    refine two_ (i := 1) (j := 10) (Ni := some 37) (Nj := some 8) #[true, true, true, false, true, false, false, false, false, false, false, false, false] #[true, false, true, false, true, false, false, false, false, false, true, false, false] rfl rfl rfl rfl (by kernel_rfl) (by decide) (by decide) (fun K hK => ?_) (fun K hK => ?_)
    · skip
      refine goes_ Try.func22 (by kernel_rfl) rfl #[.agg #[.int .i64 a0_0, .int .i64 a0_1, .int .i64 a0_2, .slice A0_3 l0_3.length c0_3]] (by rfl) rfl rfl (by simp only [List.map_toArray, List.map_cons, List.map_nil]; rfl) ?_
      with_reducible refine (laws_toImage.calls k a0_0 a0_1 a0_2 A0_3 c0_3 l0_3 x0_0 x0_1 x0_2 x0_3 _ (Kd.C_below HR0.out HB.out) HC0.out HT0.out).mono ?_
      rintro e w2 ⟨vt_, rfl, hr_, hb_⟩
      refine ⟨_, rfl, ?_⟩
      replace HB := Aside0.mk (below_then HB.out HB.out.size hb_)
      replace Kgb0 := Aside0.mk (blk_below Kgb0.out hb_)
      replace Kgb1 := Aside0.mk (blk_below Kgb1.out hb_)
      replace HZw := Aside0.mk (Nat.le_trans HZw.out hb_.size)
      obtain ⟨At0, ct0, rfl, hl_, hC_⟩ := Kd.R_reads hr_
      have HT_0 := Aside0.mk hC_
      have HL_0 := Aside0.mk hl_
      clear hr_ hb_ hl_ hC_
      refine hK.out _ _ ⟨((blk_cell Kgb0.out 0).trans rfl), ((blk_cell Kgb0.out 1).trans rfl), ((blk_cell Kgb0.out 2).trans rfl), ((blk_cell Kgb0.out 3).trans rfl), ((blk_cell Kgb1.out 0).trans rfl), ((blk_cell Kgb1.out 1).trans rfl), ((blk_cell Kgb1.out 2).trans rfl), ((blk_cell Kgb1.out 3).trans rfl)⟩ (fun hHeld => ?_)
      clear hK K
      refine norm_ (a' := ?_) ?_ ?_
      rotate_left
      · show Act.put _ (some 37) _ = _
        simp only [Act.put, List.setIfInBounds_toArray, List.set_cons_zero, List.set_cons_succ, i64_w, i32_w]
        rfl
      refine two_ (i := 3) (j := 10) (Ni := some 39) (Nj := some 8) #[true, true, true, true, true, false, false, false, false, false, false, false, false] #[true, true, true, false, true, false, false, false, false, false, true, false, false] rfl rfl rfl rfl (by kernel_rfl) (by decide) (by decide) (fun K hK => ?_) (fun K hK => ?_)
      · skip
        refine goes_ Try.func22 (by kernel_rfl) rfl #[.agg #[.int .i64 a1_0, .int .i64 a1_1, .int .i64 a1_2, .slice A1_3 l1_3.length c1_3]] (by rfl) rfl rfl (by simp only [List.map_toArray, List.map_cons, List.map_nil]; rfl) ?_
        with_reducible refine (laws_toImage.calls k a1_0 a1_1 a1_2 A1_3 c1_3 l1_3 x1_0 x1_1 x1_2 x1_3 _ (Kd.C_below HR1.out HB.out) HC1.out HT1.out).mono ?_
        rintro e w3 ⟨vt_, rfl, hr_, hb_⟩
        refine ⟨_, rfl, ?_⟩
        replace HB := Aside0.mk (below_then HB.out HB.out.size hb_)
        replace Kgb0 := Aside0.mk (blk_below Kgb0.out hb_)
        replace Kgb1 := Aside0.mk (blk_below Kgb1.out hb_)
        replace HT_0 := Aside0.mk (Kd.C_below HT_0.out hb_)
        replace HZw := Aside0.mk (Nat.le_trans HZw.out hb_.size)
        obtain ⟨At1, ct1, rfl, hl_, hC_⟩ := Kd.R_reads hr_
        have HT_1 := Aside0.mk hC_
        have HL_1 := Aside0.mk hl_
        clear hr_ hb_ hl_ hC_
        refine hK.out _ _ ⟨((blk_cell Kgb0.out 0).trans rfl), ((blk_cell Kgb0.out 1).trans rfl), ((blk_cell Kgb0.out 2).trans rfl), ((blk_cell Kgb0.out 3).trans rfl), ((blk_cell Kgb1.out 0).trans rfl), ((blk_cell Kgb1.out 1).trans rfl), ((blk_cell Kgb1.out 2).trans rfl), ((blk_cell Kgb1.out 3).trans rfl)⟩ (fun hHeld => ?_)
        clear hK K
        refine norm_ (a' := ?_) ?_ ?_
        rotate_left
        · show Act.put _ (some 39) _ = _
          simp only [Act.put, List.setIfInBounds_toArray, List.set_cons_zero, List.set_cons_succ, i64_w, i32_w]
          rfl
        refine two_ (i := 5) (j := 10) (Ni := some 41) (Nj := some 8) #[true, true, true, true, true, true, false, false, false, false, false, false, false] #[true, true, true, true, true, false, false, false, false, false, true, false, false] rfl rfl rfl rfl (by kernel_rfl) (by decide) (by decide) (fun K hK => ?_) (fun K hK => ?_)
        · skip
          refine goes_ Try.func73 (by kernel_rfl) rfl #[.slice A2_0 l2_0.length c2_0] (by rfl) rfl rfl (by simp only [List.map_toArray, List.map_cons, List.map_nil]; rfl) ?_
          with_reducible refine (laws_toBoxS.calls k A2_0 c2_0 l2_0 x2_0 _ (Kd.C_below HR2.out HB.out) HC2.out HT2.out).mono ?_
          rintro e w4 ⟨vt_, rfl, hr_, hb_⟩
          refine ⟨_, rfl, ?_⟩
          replace HB := Aside0.mk (below_then HB.out HB.out.size hb_)
          replace Kgb0 := Aside0.mk (blk_below Kgb0.out hb_)
          replace Kgb1 := Aside0.mk (blk_below Kgb1.out hb_)
          replace HT_0 := Aside0.mk (Kd.C_below HT_0.out hb_)
          replace HT_1 := Aside0.mk (Kd.C_below HT_1.out hb_)
          replace HZw := Aside0.mk (Nat.le_trans HZw.out hb_.size)
          obtain ⟨At2, ct2, rfl, hl_, hC_⟩ := Kd.R_reads hr_
          have HT_2 := Aside0.mk hC_
          have HL_2 := Aside0.mk hl_
          clear hr_ hb_ hl_ hC_
          refine hK.out _ _ ⟨((blk_cell Kgb0.out 0).trans rfl), ((blk_cell Kgb0.out 1).trans rfl), ((blk_cell Kgb0.out 2).trans rfl), ((blk_cell Kgb0.out 3).trans rfl), ((blk_cell Kgb1.out 0).trans rfl), ((blk_cell Kgb1.out 1).trans rfl), ((blk_cell Kgb1.out 2).trans rfl), ((blk_cell Kgb1.out 3).trans rfl)⟩ (fun hHeld => ?_)
          clear hK K
          refine norm_ (a' := ?_) ?_ ?_
          rotate_left
          · show Act.put _ (some 41) _ = _
            simp only [Act.put, List.setIfInBounds_toArray, List.set_cons_zero, List.set_cons_succ, i64_w, i32_w]
            rfl
          refine two_ (i := 6) (j := 10) (Ni := some 42) (Nj := some 8) #[true, true, true, true, true, true, true, false, false, false, false, false, false] #[true, true, true, true, true, true, false, false, false, false, true, false, false] rfl rfl rfl rfl (by kernel_rfl) (by decide) (by decide) (fun K hK => ?_) (fun K hK => ?_)
          · skip
            refine goes_ Try.func72 (by kernel_rfl) rfl #[.agg #[.int .i64 x0_0, .int .i64 x0_1, .int .i64 x0_2, .slice At0 x0_3.length ct0], .agg #[.int .i64 x1_0, .int .i64 x1_1, .int .i64 x1_2, .slice At1 x1_3.length ct1], .slice At2 x2_0.length ct2] (by rfl) rfl rfl (by simp only [List.map_toArray, List.map_cons, List.map_nil]; rfl) ?_
            with_reducible refine (spec_PatchImage.calls k x0_0 x0_1 x0_2 At0 ct0 x0_3 x1_0 x1_1 x1_2 At1 ct1 x1_3 At2 ct2 x2_0 v0 v1 v2 v3 vok _ HT_0.out HL_0.out HT_1.out HL_1.out HT_2.out HL_2.out HSP.out).mono ?_
            rintro e w5 ⟨vw_, rfl, hr_, hb_⟩
            refine ⟨_, rfl, ?_⟩
            have HZp_ := HZw
            have HBp_ := HB
            replace HB := Aside0.mk (below_then HB.out HB.out.size hb_)
            replace Kgb0 := Aside0.mk (blk_below Kgb0.out hb_)
            replace Kgb1 := Aside0.mk (blk_below Kgb1.out hb_)
            replace HT_0 := Aside0.mk (Kd.C_below HT_0.out hb_)
            replace HT_1 := Aside0.mk (Kd.C_below HT_1.out hb_)
            replace HT_2 := Aside0.mk (Kd.C_below HT_2.out hb_)
            replace HZw := Aside0.mk (Nat.le_trans HZw.out hb_.size)
            have Rw := Aside0.mk (Kd.R_lower (Kd.R_mono (Kd.R_bound hr_) (fun k_ hk_ => (⟨Nat.le_trans HZp_.out hk_.2.1, hk_.2.2.1⟩ : wz2.heap.size ≤ k_ ∧ k_ < w5.heap.size))) HBp_.out.size)
            clear hr_ hb_ HZp_ HBp_
            refine hK.out _ _ ⟨((blk_cell Kgb0.out 0).trans rfl), ((blk_cell Kgb0.out 1).trans rfl), ((blk_cell Kgb0.out 2).trans rfl), ((blk_cell Kgb0.out 3).trans rfl), ((blk_cell Kgb1.out 0).trans rfl), ((blk_cell Kgb1.out 1).trans rfl), ((blk_cell Kgb1.out 2).trans rfl), ((blk_cell Kgb1.out 3).trans rfl)⟩ (fun hHeld => ?_)
            clear hK K
            refine norm_ (a' := ?_) ?_ ?_
            rotate_left
            · show Act.put _ (some 42) _ = _
              simp only [Act.put, List.setIfInBounds_toArray, List.set_cons_zero, List.set_cons_succ, i64_w, i32_w]
              rfl
            refine pure_ (i := 7) (N := some 35) (v := ?_) (a' := ?_) #[true, true, true, true, true, true, true, true, false, false, false, false, false] rfl rfl (by kernel_rfl) (fun _ _ _ h => h) (Or.inl ⟨by rfl, ?_⟩) ?_ ?_
            rotate_left
            · intro w'
              go_simp
              with_reducible rfl
            rotate_left
            · simp only [Act.put, List.setIfInBounds_toArray, List.set_cons_zero, List.set_cons_succ, i64_w, i32_w]
              rfl
            refine pure_ (i := 8) (N := some 43) (v := ?_) (a' := ?_) #[true, true, true, true, true, true, true, true, true, false, false, false, false] rfl rfl (by kernel_rfl) (fun _ _ _ h => h) (Or.inl ⟨by rfl, ?_⟩) ?_ ?_
            rotate_left
            · intro w'
              go_simp
              with_reducible rfl
            rotate_left
            · simp only [Act.put, List.setIfInBounds_toArray, List.set_cons_zero, List.set_cons_succ, i64_w, i32_w]
              rfl
            refine pure_ (i := 9) (N := some 44) (v := ?_) (a' := ?_) #[true, true, true, true, true, true, true, true, true, true, false, false, false] rfl rfl (by kernel_rfl) (fun _ _ _ h => h) (Or.inl ⟨by rfl, ?_⟩) ?_ ?_
            rotate_left
            · intro w'
              go_simp
              with_reducible rfl
            rotate_left
            · simp only [Act.put, List.setIfInBounds_toArray, List.set_cons_zero, List.set_cons_succ, i64_w, i32_w]
              rfl
            refine one_ (i := 10) (N := some 8) #[true, true, true, true, true, true, true, true, true, true, true, false, false] rfl rfl (by kernel_rfl) (by decide) (fun K hK => ?_)
            refine value_ (w1 := ?_) (v := ?_) (by rfl) rfl ?_ ?_
            rotate_left 2
            · go_simp
              constructor
              · rfl
              · rfl
            replace HB := Aside0.mk (below_alloc HB.out (.cells #[.int .i64 0, .int .i64 0, .int .i64 0, .slice none 0 0] 27))
            replace Kgb0 := Aside0.mk (blk_alloc Kgb0.out (.cells #[.int .i64 0, .int .i64 0, .int .i64 0, .slice none 0 0] 27))
            replace Kgb1 := Aside0.mk (blk_alloc Kgb1.out (.cells #[.int .i64 0, .int .i64 0, .int .i64 0, .slice none 0 0] 27))
            replace HT_0 := Aside0.mk (Kd.C_alloc HT_0.out (.cells #[.int .i64 0, .int .i64 0, .int .i64 0, .slice none 0 0] 27))
            replace HT_1 := Aside0.mk (Kd.C_alloc HT_1.out (.cells #[.int .i64 0, .int .i64 0, .int .i64 0, .slice none 0 0] 27))
            replace HT_2 := Aside0.mk (Kd.C_alloc HT_2.out (.cells #[.int .i64 0, .int .i64 0, .int .i64 0, .slice none 0 0] 27))
            replace Rw := Aside0.mk (Kd.R_mono (Kd.R_bound (Kd.R_alloc Rw.out (.cells #[.int .i64 0, .int .i64 0, .int .i64 0, .slice none 0 0] 27))) (fun k_ hk_ => (⟨hk_.1.1, hk_.2.2.1⟩ : wz2.heap.size ≤ k_ ∧ k_ < (w5.alloc (.cells #[.int .i64 0, .int .i64 0, .int .i64 0, .slice none 0 0] 27)).heap.size)))
            have KA_ := Aside0.mk (blk_new w5 (.cells #[.int .i64 0, .int .i64 0, .int .i64 0, .slice none 0 0] 27 (0, 0)))
            have GA_ := HZw
            replace HZw := Aside0.mk (Nat.le_trans HZw.out (below_alloc (Below.refl _ _) (.cells #[.int .i64 0, .int .i64 0, .int .i64 0, .slice none 0 0] 27)).size)
            refine hK.out _ _ ⟨((blk_cell Kgb0.out 0).trans rfl), ((blk_cell Kgb0.out 1).trans rfl), ((blk_cell Kgb0.out 2).trans rfl), ((blk_cell Kgb0.out 3).trans rfl), ((blk_cell Kgb1.out 0).trans rfl), ((blk_cell Kgb1.out 1).trans rfl), ((blk_cell Kgb1.out 2).trans rfl), ((blk_cell Kgb1.out 3).trans rfl)⟩ (fun hHeld => ?_)
            clear hK K
            refine norm_ (a' := ?_) ?_ ?_
            rotate_left
            · show Act.put _ (some 8) _ = _
              simp only [Act.put, List.setIfInBounds_toArray, List.set_cons_zero, List.set_cons_succ, i64_w, i32_w]
              rfl
            exact norm_ (by first | (simp only [putAll, Act.put, List.setIfInBounds_toArray, List.set_cons_zero, List.set_cons_succ]; done) | (simp only [putAll, Act.put, List.setIfInBounds_toArray, List.set_cons_zero, List.set_cons_succ]; rfl)) (hCont (.slice At0 x0_3.length ct0, .slice At1 x1_3.length ct1, .slice At2 x2_0.length ct2, vw_, w5.heap.size) _ ⟨Rw.out, KA_.out, GA_.out, Kgb0.out, Kgb1.out, HB.out, HZw.out⟩)
          · skip
            refine value_ (w1 := ?_) (v := ?_) (by rfl) rfl ?_ ?_
            rotate_left 2
            · go_simp
              constructor
              · rfl
              · rfl
            replace HB := Aside0.mk (below_alloc HB.out (.cells #[.int .i64 0, .int .i64 0, .int .i64 0, .slice none 0 0] 27))
            replace Kgb0 := Aside0.mk (blk_alloc Kgb0.out (.cells #[.int .i64 0, .int .i64 0, .int .i64 0, .slice none 0 0] 27))
            replace Kgb1 := Aside0.mk (blk_alloc Kgb1.out (.cells #[.int .i64 0, .int .i64 0, .int .i64 0, .slice none 0 0] 27))
            replace HT_0 := Aside0.mk (Kd.C_alloc HT_0.out (.cells #[.int .i64 0, .int .i64 0, .int .i64 0, .slice none 0 0] 27))
            replace HT_1 := Aside0.mk (Kd.C_alloc HT_1.out (.cells #[.int .i64 0, .int .i64 0, .int .i64 0, .slice none 0 0] 27))
            replace HT_2 := Aside0.mk (Kd.C_alloc HT_2.out (.cells #[.int .i64 0, .int .i64 0, .int .i64 0, .slice none 0 0] 27))
            have KA_ := Aside0.mk (blk_new w4 (.cells #[.int .i64 0, .int .i64 0, .int .i64 0, .slice none 0 0] 27 (0, 0)))
            have GA_ := HZw
            replace HZw := Aside0.mk (Nat.le_trans HZw.out (below_alloc (Below.refl _ _) (.cells #[.int .i64 0, .int .i64 0, .int .i64 0, .slice none 0 0] 27)).size)
            refine hK.out _ _ ⟨((blk_cell Kgb0.out 0).trans rfl), ((blk_cell Kgb0.out 1).trans rfl), ((blk_cell Kgb0.out 2).trans rfl), ((blk_cell Kgb0.out 3).trans rfl), ((blk_cell Kgb1.out 0).trans rfl), ((blk_cell Kgb1.out 1).trans rfl), ((blk_cell Kgb1.out 2).trans rfl), ((blk_cell Kgb1.out 3).trans rfl)⟩ (fun hHeld => ?_)
            clear hK K
            refine norm_ (a' := ?_) ?_ ?_
            rotate_left
            · show Act.put _ (some 8) _ = _
              simp only [Act.put, List.setIfInBounds_toArray, List.set_cons_zero, List.set_cons_succ, i64_w, i32_w]
              rfl
            refine one_ (i := 6) (N := some 42) #[true, true, true, true, true, true, true, false, false, false, true, false, false] rfl rfl (by kernel_rfl) (by decide) (fun K hK => ?_)
            refine goes_ Try.func72 (by kernel_rfl) rfl #[.agg #[.int .i64 x0_0, .int .i64 x0_1, .int .i64 x0_2, .slice At0 x0_3.length ct0], .agg #[.int .i64 x1_0, .int .i64 x1_1, .int .i64 x1_2, .slice At1 x1_3.length ct1], .slice At2 x2_0.length ct2] (by rfl) rfl rfl (by simp only [List.map_toArray, List.map_cons, List.map_nil]; rfl) ?_
            with_reducible refine (spec_PatchImage.calls k x0_0 x0_1 x0_2 At0 ct0 x0_3 x1_0 x1_1 x1_2 At1 ct1 x1_3 At2 ct2 x2_0 v0 v1 v2 v3 vok _ HT_0.out HL_0.out HT_1.out HL_1.out HT_2.out HL_2.out HSP.out).mono ?_
            rintro e w8 ⟨vw_, rfl, hr_, hb_⟩
            refine ⟨_, rfl, ?_⟩
            have HZp_ := HZw
            have HBp_ := HB
            replace HB := Aside0.mk (below_then HB.out HB.out.size hb_)
            replace Kgb0 := Aside0.mk (blk_below Kgb0.out hb_)
            replace Kgb1 := Aside0.mk (blk_below Kgb1.out hb_)
            replace HT_0 := Aside0.mk (Kd.C_below HT_0.out hb_)
            replace HT_1 := Aside0.mk (Kd.C_below HT_1.out hb_)
            replace HT_2 := Aside0.mk (Kd.C_below HT_2.out hb_)
            replace KA_ := Aside0.mk (blk_below KA_.out hb_)
            replace HZw := Aside0.mk (Nat.le_trans HZw.out hb_.size)
            have Rw := Aside0.mk (Kd.R_lower (Kd.R_mono (Kd.R_bound hr_) (fun k_ hk_ => (⟨Nat.le_trans HZp_.out hk_.2.1, hk_.2.2.1⟩ : wz2.heap.size ≤ k_ ∧ k_ < w8.heap.size))) HBp_.out.size)
            clear hr_ hb_ HZp_ HBp_
            refine hK.out _ _ ⟨((blk_cell Kgb0.out 0).trans rfl), ((blk_cell Kgb0.out 1).trans rfl), ((blk_cell Kgb0.out 2).trans rfl), ((blk_cell Kgb0.out 3).trans rfl), ((blk_cell Kgb1.out 0).trans rfl), ((blk_cell Kgb1.out 1).trans rfl), ((blk_cell Kgb1.out 2).trans rfl), ((blk_cell Kgb1.out 3).trans rfl)⟩ (fun hHeld => ?_)
            clear hK K
            refine norm_ (a' := ?_) ?_ ?_
            rotate_left
            · show Act.put _ (some 42) _ = _
              simp only [Act.put, List.setIfInBounds_toArray, List.set_cons_zero, List.set_cons_succ, i64_w, i32_w]
              rfl
            refine pure_ (i := 7) (N := some 35) (v := ?_) (a' := ?_) #[true, true, true, true, true, true, true, true, false, false, true, false, false] rfl rfl (by kernel_rfl) (fun _ _ _ h => h) (Or.inl ⟨by rfl, ?_⟩) ?_ ?_
            rotate_left
            · intro w'
              go_simp
              with_reducible rfl
            rotate_left
            · simp only [Act.put, List.setIfInBounds_toArray, List.set_cons_zero, List.set_cons_succ, i64_w, i32_w]
              rfl
            refine pure_ (i := 8) (N := some 43) (v := ?_) (a' := ?_) #[true, true, true, true, true, true, true, true, true, false, true, false, false] rfl rfl (by kernel_rfl) (fun _ _ _ h => h) (Or.inl ⟨by rfl, ?_⟩) ?_ ?_
            rotate_left
            · intro w'
              go_simp
              with_reducible rfl
            rotate_left
            · simp only [Act.put, List.setIfInBounds_toArray, List.set_cons_zero, List.set_cons_succ, i64_w, i32_w]
              rfl
            refine pure_ (i := 9) (N := some 44) (v := ?_) (a' := ?_) #[true, true, true, true, true, true, true, true, true, true, true, false, false] rfl rfl (by kernel_rfl) (fun _ _ _ h => h) (Or.inl ⟨by rfl, ?_⟩) ?_ ?_
            rotate_left
            · intro w'
              go_simp
              with_reducible rfl
            rotate_left
            · simp only [Act.put, List.setIfInBounds_toArray, List.set_cons_zero, List.set_cons_succ, i64_w, i32_w]
              rfl
            exact norm_ (by first | (simp only [putAll, Act.put, List.setIfInBounds_toArray, List.set_cons_zero, List.set_cons_succ]; done) | (simp only [putAll, Act.put, List.setIfInBounds_toArray, List.set_cons_zero, List.set_cons_succ]; rfl)) (hCont (.slice At0 x0_3.length ct0, .slice At1 x1_3.length ct1, .slice At2 x2_0.length ct2, vw_, w4.heap.size) _ ⟨Rw.out, KA_.out, GA_.out, Kgb0.out, Kgb1.out, HB.out, HZw.out⟩)
        · skip
          refine value_ (w1 := ?_) (v := ?_) (by rfl) rfl ?_ ?_
          rotate_left 2
          · go_simp
            constructor
            · rfl
            · rfl
          replace HB := Aside0.mk (below_alloc HB.out (.cells #[.int .i64 0, .int .i64 0, .int .i64 0, .slice none 0 0] 27))
          replace Kgb0 := Aside0.mk (blk_alloc Kgb0.out (.cells #[.int .i64 0, .int .i64 0, .int .i64 0, .slice none 0 0] 27))
          replace Kgb1 := Aside0.mk (blk_alloc Kgb1.out (.cells #[.int .i64 0, .int .i64 0, .int .i64 0, .slice none 0 0] 27))
          replace HT_0 := Aside0.mk (Kd.C_alloc HT_0.out (.cells #[.int .i64 0, .int .i64 0, .int .i64 0, .slice none 0 0] 27))
          replace HT_1 := Aside0.mk (Kd.C_alloc HT_1.out (.cells #[.int .i64 0, .int .i64 0, .int .i64 0, .slice none 0 0] 27))
          have KA_ := Aside0.mk (blk_new w3 (.cells #[.int .i64 0, .int .i64 0, .int .i64 0, .slice none 0 0] 27 (0, 0)))
          have GA_ := HZw
          replace HZw := Aside0.mk (Nat.le_trans HZw.out (below_alloc (Below.refl _ _) (.cells #[.int .i64 0, .int .i64 0, .int .i64 0, .slice none 0 0] 27)).size)
          refine hK.out _ _ ⟨((blk_cell Kgb0.out 0).trans rfl), ((blk_cell Kgb0.out 1).trans rfl), ((blk_cell Kgb0.out 2).trans rfl), ((blk_cell Kgb0.out 3).trans rfl), ((blk_cell Kgb1.out 0).trans rfl), ((blk_cell Kgb1.out 1).trans rfl), ((blk_cell Kgb1.out 2).trans rfl), ((blk_cell Kgb1.out 3).trans rfl)⟩ (fun hHeld => ?_)
          clear hK K
          refine norm_ (a' := ?_) ?_ ?_
          rotate_left
          · show Act.put _ (some 8) _ = _
            simp only [Act.put, List.setIfInBounds_toArray, List.set_cons_zero, List.set_cons_succ, i64_w, i32_w]
            rfl
          refine one_ (i := 5) (N := some 41) #[true, true, true, true, true, true, false, false, false, false, true, false, false] rfl rfl (by kernel_rfl) (by decide) (fun K hK => ?_)
          refine goes_ Try.func73 (by kernel_rfl) rfl #[.slice A2_0 l2_0.length c2_0] (by rfl) rfl rfl (by simp only [List.map_toArray, List.map_cons, List.map_nil]; rfl) ?_
          with_reducible refine (laws_toBoxS.calls k A2_0 c2_0 l2_0 x2_0 _ (Kd.C_below HR2.out HB.out) HC2.out HT2.out).mono ?_
          rintro e w10 ⟨vt_, rfl, hr_, hb_⟩
          refine ⟨_, rfl, ?_⟩
          replace HB := Aside0.mk (below_then HB.out HB.out.size hb_)
          replace Kgb0 := Aside0.mk (blk_below Kgb0.out hb_)
          replace Kgb1 := Aside0.mk (blk_below Kgb1.out hb_)
          replace HT_0 := Aside0.mk (Kd.C_below HT_0.out hb_)
          replace HT_1 := Aside0.mk (Kd.C_below HT_1.out hb_)
          replace KA_ := Aside0.mk (blk_below KA_.out hb_)
          replace HZw := Aside0.mk (Nat.le_trans HZw.out hb_.size)
          obtain ⟨At2, ct2, rfl, hl_, hC_⟩ := Kd.R_reads hr_
          have HT_2 := Aside0.mk hC_
          have HL_2 := Aside0.mk hl_
          clear hr_ hb_ hl_ hC_
          refine hK.out _ _ ⟨((blk_cell Kgb0.out 0).trans rfl), ((blk_cell Kgb0.out 1).trans rfl), ((blk_cell Kgb0.out 2).trans rfl), ((blk_cell Kgb0.out 3).trans rfl), ((blk_cell Kgb1.out 0).trans rfl), ((blk_cell Kgb1.out 1).trans rfl), ((blk_cell Kgb1.out 2).trans rfl), ((blk_cell Kgb1.out 3).trans rfl)⟩ (fun hHeld => ?_)
          clear hK K
          refine norm_ (a' := ?_) ?_ ?_
          rotate_left
          · show Act.put _ (some 41) _ = _
            simp only [Act.put, List.setIfInBounds_toArray, List.set_cons_zero, List.set_cons_succ, i64_w, i32_w]
            rfl
          refine one_ (i := 6) (N := some 42) #[true, true, true, true, true, true, true, false, false, false, true, false, false] rfl rfl (by kernel_rfl) (by decide) (fun K hK => ?_)
          refine goes_ Try.func72 (by kernel_rfl) rfl #[.agg #[.int .i64 x0_0, .int .i64 x0_1, .int .i64 x0_2, .slice At0 x0_3.length ct0], .agg #[.int .i64 x1_0, .int .i64 x1_1, .int .i64 x1_2, .slice At1 x1_3.length ct1], .slice At2 x2_0.length ct2] (by rfl) rfl rfl (by simp only [List.map_toArray, List.map_cons, List.map_nil]; rfl) ?_
          with_reducible refine (spec_PatchImage.calls k x0_0 x0_1 x0_2 At0 ct0 x0_3 x1_0 x1_1 x1_2 At1 ct1 x1_3 At2 ct2 x2_0 v0 v1 v2 v3 vok _ HT_0.out HL_0.out HT_1.out HL_1.out HT_2.out HL_2.out HSP.out).mono ?_
          rintro e w11 ⟨vw_, rfl, hr_, hb_⟩
          refine ⟨_, rfl, ?_⟩
          have HZp_ := HZw
          have HBp_ := HB
          replace HB := Aside0.mk (below_then HB.out HB.out.size hb_)
          replace Kgb0 := Aside0.mk (blk_below Kgb0.out hb_)
          replace Kgb1 := Aside0.mk (blk_below Kgb1.out hb_)
          replace HT_0 := Aside0.mk (Kd.C_below HT_0.out hb_)
          replace HT_1 := Aside0.mk (Kd.C_below HT_1.out hb_)
          replace HT_2 := Aside0.mk (Kd.C_below HT_2.out hb_)
          replace KA_ := Aside0.mk (blk_below KA_.out hb_)
          replace HZw := Aside0.mk (Nat.le_trans HZw.out hb_.size)
          have Rw := Aside0.mk (Kd.R_lower (Kd.R_mono (Kd.R_bound hr_) (fun k_ hk_ => (⟨Nat.le_trans HZp_.out hk_.2.1, hk_.2.2.1⟩ : wz2.heap.size ≤ k_ ∧ k_ < w11.heap.size))) HBp_.out.size)
          clear hr_ hb_ HZp_ HBp_
          refine hK.out _ _ ⟨((blk_cell Kgb0.out 0).trans rfl), ((blk_cell Kgb0.out 1).trans rfl), ((blk_cell Kgb0.out 2).trans rfl), ((blk_cell Kgb0.out 3).trans rfl), ((blk_cell Kgb1.out 0).trans rfl), ((blk_cell Kgb1.out 1).trans rfl), ((blk_cell Kgb1.out 2).trans rfl), ((blk_cell Kgb1.out 3).trans rfl)⟩ (fun hHeld => ?_)
          clear hK K
          refine norm_ (a' := ?_) ?_ ?_
          rotate_left
          · show Act.put _ (some 42) _ = _
            simp only [Act.put, List.setIfInBounds_toArray, List.set_cons_zero, List.set_cons_succ, i64_w, i32_w]
            rfl
          refine pure_ (i := 7) (N := some 35) (v := ?_) (a' := ?_) #[true, true, true, true, true, true, true, true, false, false, true, false, false] rfl rfl (by kernel_rfl) (fun _ _ _ h => h) (Or.inl ⟨by rfl, ?_⟩) ?_ ?_
          rotate_left
          · intro w'
            go_simp
            with_reducible rfl
          rotate_left
          · simp only [Act.put, List.setIfInBounds_toArray, List.set_cons_zero, List.set_cons_succ, i64_w, i32_w]
            rfl
          refine pure_ (i := 8) (N := some 43) (v := ?_) (a' := ?_) #[true, true, true, true, true, true, true, true, true, false, true, false, false] rfl rfl (by kernel_rfl) (fun _ _ _ h => h) (Or.inl ⟨by rfl, ?_⟩) ?_ ?_
          rotate_left
          · intro w'
            go_simp
            with_reducible rfl
          rotate_left
          · simp only [Act.put, List.setIfInBounds_toArray, List.set_cons_zero, List.set_cons_succ, i64_w, i32_w]
            rfl
          refine pure_ (i := 9) (N := some 44) (v := ?_) (a' := ?_) #[true, true, true, true, true, true, true, true, true, true, true, false, false] rfl rfl (by kernel_rfl) (fun _ _ _ h => h) (Or.inl ⟨by rfl, ?_⟩) ?_ ?_
          rotate_left
          · intro w'
            go_simp
            with_reducible rfl
          rotate_left
          · simp only [Act.put, List.setIfInBounds_toArray, List.set_cons_zero, List.set_cons_succ, i64_w, i32_w]
            rfl
          exact norm_ (by first | (simp only [putAll, Act.put, List.setIfInBounds_toArray, List.set_cons_zero, List.set_cons_succ]; done) | (simp only [putAll, Act.put, List.setIfInBounds_toArray, List.set_cons_zero, List.set_cons_succ]; rfl)) (hCont (.slice At0 x0_3.length ct0, .slice At1 x1_3.length ct1, .slice At2 x2_0.length ct2, vw_, w3.heap.size) _ ⟨Rw.out, KA_.out, GA_.out, Kgb0.out, Kgb1.out, HB.out, HZw.out⟩)
      · skip
        refine value_ (w1 := ?_) (v := ?_) (by rfl) rfl ?_ ?_
        rotate_left 2
        · go_simp
          constructor
          · rfl
          · rfl
        replace HB := Aside0.mk (below_alloc HB.out (.cells #[.int .i64 0, .int .i64 0, .int .i64 0, .slice none 0 0] 27))
        replace Kgb0 := Aside0.mk (blk_alloc Kgb0.out (.cells #[.int .i64 0, .int .i64 0, .int .i64 0, .slice none 0 0] 27))
        replace Kgb1 := Aside0.mk (blk_alloc Kgb1.out (.cells #[.int .i64 0, .int .i64 0, .int .i64 0, .slice none 0 0] 27))
        replace HT_0 := Aside0.mk (Kd.C_alloc HT_0.out (.cells #[.int .i64 0, .int .i64 0, .int .i64 0, .slice none 0 0] 27))
        have KA_ := Aside0.mk (blk_new w2 (.cells #[.int .i64 0, .int .i64 0, .int .i64 0, .slice none 0 0] 27 (0, 0)))
        have GA_ := HZw
        replace HZw := Aside0.mk (Nat.le_trans HZw.out (below_alloc (Below.refl _ _) (.cells #[.int .i64 0, .int .i64 0, .int .i64 0, .slice none 0 0] 27)).size)
        refine hK.out _ _ ⟨((blk_cell Kgb0.out 0).trans rfl), ((blk_cell Kgb0.out 1).trans rfl), ((blk_cell Kgb0.out 2).trans rfl), ((blk_cell Kgb0.out 3).trans rfl), ((blk_cell Kgb1.out 0).trans rfl), ((blk_cell Kgb1.out 1).trans rfl), ((blk_cell Kgb1.out 2).trans rfl), ((blk_cell Kgb1.out 3).trans rfl)⟩ (fun hHeld => ?_)
        clear hK K
        refine norm_ (a' := ?_) ?_ ?_
        rotate_left
        · show Act.put _ (some 8) _ = _
          simp only [Act.put, List.setIfInBounds_toArray, List.set_cons_zero, List.set_cons_succ, i64_w, i32_w]
          rfl
        refine one_ (i := 3) (N := some 39) #[true, true, true, true, true, false, false, false, false, false, true, false, false] rfl rfl (by kernel_rfl) (by decide) (fun K hK => ?_)
        refine goes_ Try.func22 (by kernel_rfl) rfl #[.agg #[.int .i64 a1_0, .int .i64 a1_1, .int .i64 a1_2, .slice A1_3 l1_3.length c1_3]] (by rfl) rfl rfl (by simp only [List.map_toArray, List.map_cons, List.map_nil]; rfl) ?_
        with_reducible refine (laws_toImage.calls k a1_0 a1_1 a1_2 A1_3 c1_3 l1_3 x1_0 x1_1 x1_2 x1_3 _ (Kd.C_below HR1.out HB.out) HC1.out HT1.out).mono ?_
        rintro e w13 ⟨vt_, rfl, hr_, hb_⟩
        refine ⟨_, rfl, ?_⟩
        replace HB := Aside0.mk (below_then HB.out HB.out.size hb_)
        replace Kgb0 := Aside0.mk (blk_below Kgb0.out hb_)
        replace Kgb1 := Aside0.mk (blk_below Kgb1.out hb_)
        replace HT_0 := Aside0.mk (Kd.C_below HT_0.out hb_)
        replace KA_ := Aside0.mk (blk_below KA_.out hb_)
        replace HZw := Aside0.mk (Nat.le_trans HZw.out hb_.size)
        obtain ⟨At1, ct1, rfl, hl_, hC_⟩ := Kd.R_reads hr_
        have HT_1 := Aside0.mk hC_
        have HL_1 := Aside0.mk hl_
        clear hr_ hb_ hl_ hC_
        refine hK.out _ _ ⟨((blk_cell Kgb0.out 0).trans rfl), ((blk_cell Kgb0.out 1).trans rfl), ((blk_cell Kgb0.out 2).trans rfl), ((blk_cell Kgb0.out 3).trans rfl), ((blk_cell Kgb1.out 0).trans rfl), ((blk_cell Kgb1.out 1).trans rfl), ((blk_cell Kgb1.out 2).trans rfl), ((blk_cell Kgb1.out 3).trans rfl)⟩ (fun hHeld => ?_)
        clear hK K
        refine norm_ (a' := ?_) ?_ ?_
        rotate_left
        · show Act.put _ (some 39) _ = _
          simp only [Act.put, List.setIfInBounds_toArray, List.set_cons_zero, List.set_cons_succ, i64_w, i32_w]
          rfl
        refine one_ (i := 5) (N := some 41) #[true, true, true, true, true, true, false, false, false, false, true, false, false] rfl rfl (by kernel_rfl) (by decide) (fun K hK => ?_)
        refine goes_ Try.func73 (by kernel_rfl) rfl #[.slice A2_0 l2_0.length c2_0] (by rfl) rfl rfl (by simp only [List.map_toArray, List.map_cons, List.map_nil]; rfl) ?_
        with_reducible refine (laws_toBoxS.calls k A2_0 c2_0 l2_0 x2_0 _ (Kd.C_below HR2.out HB.out) HC2.out HT2.out).mono ?_
        rintro e w14 ⟨vt_, rfl, hr_, hb_⟩
        refine ⟨_, rfl, ?_⟩
        replace HB := Aside0.mk (below_then HB.out HB.out.size hb_)
        replace Kgb0 := Aside0.mk (blk_below Kgb0.out hb_)
        replace Kgb1 := Aside0.mk (blk_below Kgb1.out hb_)
        replace HT_0 := Aside0.mk (Kd.C_below HT_0.out hb_)
        replace HT_1 := Aside0.mk (Kd.C_below HT_1.out hb_)
        replace KA_ := Aside0.mk (blk_below KA_.out hb_)
        replace HZw := Aside0.mk (Nat.le_trans HZw.out hb_.size)
        obtain ⟨At2, ct2, rfl, hl_, hC_⟩ := Kd.R_reads hr_
        have HT_2 := Aside0.mk hC_
        have HL_2 := Aside0.mk hl_
        clear hr_ hb_ hl_ hC_
        refine hK.out _ _ ⟨((blk_cell Kgb0.out 0).trans rfl), ((blk_cell Kgb0.out 1).trans rfl), ((blk_cell Kgb0.out 2).trans rfl), ((blk_cell Kgb0.out 3).trans rfl), ((blk_cell Kgb1.out 0).trans rfl), ((blk_cell Kgb1.out 1).trans rfl), ((blk_cell Kgb1.out 2).trans rfl), ((blk_cell Kgb1.out 3).trans rfl)⟩ (fun hHeld => ?_)
        clear hK K
        refine norm_ (a' := ?_) ?_ ?_
        rotate_left
        · show Act.put _ (some 41) _ = _
          simp only [Act.put, List.setIfInBounds_toArray, List.set_cons_zero, List.set_cons_succ, i64_w, i32_w]
          rfl
        refine one_ (i := 6) (N := some 42) #[true, true, true, true, true, true, true, false, false, false, true, false, false] rfl rfl (by kernel_rfl) (by decide) (fun K hK => ?_)
        refine goes_ Try.func72 (by kernel_rfl) rfl #[.agg #[.int .i64 x0_0, .int .i64 x0_1, .int .i64 x0_2, .slice At0 x0_3.length ct0], .agg #[.int .i64 x1_0, .int .i64 x1_1, .int .i64 x1_2, .slice At1 x1_3.length ct1], .slice At2 x2_0.length ct2] (by rfl) rfl rfl (by simp only [List.map_toArray, List.map_cons, List.map_nil]; rfl) ?_
        with_reducible refine (spec_PatchImage.calls k x0_0 x0_1 x0_2 At0 ct0 x0_3 x1_0 x1_1 x1_2 At1 ct1 x1_3 At2 ct2 x2_0 v0 v1 v2 v3 vok _ HT_0.out HL_0.out HT_1.out HL_1.out HT_2.out HL_2.out HSP.out).mono ?_
        rintro e w15 ⟨vw_, rfl, hr_, hb_⟩
        refine ⟨_, rfl, ?_⟩
        have HZp_ := HZw
        have HBp_ := HB
        replace HB := Aside0.mk (below_then HB.out HB.out.size hb_)
        replace Kgb0 := Aside0.mk (blk_below Kgb0.out hb_)
        replace Kgb1 := Aside0.mk (blk_below Kgb1.out hb_)
        replace HT_0 := Aside0.mk (Kd.C_below HT_0.out hb_)
        replace HT_1 := Aside0.mk (Kd.C_below HT_1.out hb_)
        replace HT_2 := Aside0.mk (Kd.C_below HT_2.out hb_)
        replace KA_ := Aside0.mk (blk_below KA_.out hb_)
        replace HZw := Aside0.mk (Nat.le_trans HZw.out hb_.size)
        have Rw := Aside0.mk (Kd.R_lower (Kd.R_mono (Kd.R_bound hr_) (fun k_ hk_ => (⟨Nat.le_trans HZp_.out hk_.2.1, hk_.2.2.1⟩ : wz2.heap.size ≤ k_ ∧ k_ < w15.heap.size))) HBp_.out.size)
        clear hr_ hb_ HZp_ HBp_
        refine hK.out _ _ ⟨((blk_cell Kgb0.out 0).trans rfl), ((blk_cell Kgb0.out 1).trans rfl), ((blk_cell Kgb0.out 2).trans rfl), ((blk_cell Kgb0.out 3).trans rfl), ((blk_cell Kgb1.out 0).trans rfl), ((blk_cell Kgb1.out 1).trans rfl), ((blk_cell Kgb1.out 2).trans rfl), ((blk_cell Kgb1.out 3).trans rfl)⟩ (fun hHeld => ?_)
        clear hK K
        refine norm_ (a' := ?_) ?_ ?_
        rotate_left
        · show Act.put _ (some 42) _ = _
          simp only [Act.put, List.setIfInBounds_toArray, List.set_cons_zero, List.set_cons_succ, i64_w, i32_w]
          rfl
        refine pure_ (i := 7) (N := some 35) (v := ?_) (a' := ?_) #[true, true, true, true, true, true, true, true, false, false, true, false, false] rfl rfl (by kernel_rfl) (fun _ _ _ h => h) (Or.inl ⟨by rfl, ?_⟩) ?_ ?_
        rotate_left
        · intro w'
          go_simp
          with_reducible rfl
        rotate_left
        · simp only [Act.put, List.setIfInBounds_toArray, List.set_cons_zero, List.set_cons_succ, i64_w, i32_w]
          rfl
        refine pure_ (i := 8) (N := some 43) (v := ?_) (a' := ?_) #[true, true, true, true, true, true, true, true, true, false, true, false, false] rfl rfl (by kernel_rfl) (fun _ _ _ h => h) (Or.inl ⟨by rfl, ?_⟩) ?_ ?_
        rotate_left
        · intro w'
          go_simp
          with_reducible rfl
        rotate_left
        · simp only [Act.put, List.setIfInBounds_toArray, List.set_cons_zero, List.set_cons_succ, i64_w, i32_w]
          rfl
        refine pure_ (i := 9) (N := some 44) (v := ?_) (a' := ?_) #[true, true, true, true, true, true, true, true, true, true, true, false, false] rfl rfl (by kernel_rfl) (fun _ _ _ h => h) (Or.inl ⟨by rfl, ?_⟩) ?_ ?_
        rotate_left
        · intro w'
          go_simp
          with_reducible rfl
        rotate_left
        · simp only [Act.put, List.setIfInBounds_toArray, List.set_cons_zero, List.set_cons_succ, i64_w, i32_w]
          rfl
        exact norm_ (by first | (simp only [putAll, Act.put, List.setIfInBounds_toArray, List.set_cons_zero, List.set_cons_succ]; done) | (simp only [putAll, Act.put, List.setIfInBounds_toArray, List.set_cons_zero, List.set_cons_succ]; rfl)) (hCont (.slice At0 x0_3.length ct0, .slice At1 x1_3.length ct1, .slice At2 x2_0.length ct2, vw_, w2.heap.size) _ ⟨Rw.out, KA_.out, GA_.out, Kgb0.out, Kgb1.out, HB.out, HZw.out⟩)
    · skip
      refine value_ (w1 := ?_) (v := ?_) (by rfl) rfl ?_ ?_
      rotate_left 2
      · go_simp
        constructor
        · rfl
        · rfl
      replace HB := Aside0.mk (below_alloc HB.out (.cells #[.int .i64 0, .int .i64 0, .int .i64 0, .slice none 0 0] 27))
      replace Kgb0 := Aside0.mk (blk_alloc Kgb0.out (.cells #[.int .i64 0, .int .i64 0, .int .i64 0, .slice none 0 0] 27))
      replace Kgb1 := Aside0.mk (blk_alloc Kgb1.out (.cells #[.int .i64 0, .int .i64 0, .int .i64 0, .slice none 0 0] 27))
      have KA_ := Aside0.mk (blk_new wz2.drew (.cells #[.int .i64 0, .int .i64 0, .int .i64 0, .slice none 0 0] 27 (0, 0)))
      have GA_ := HZw
      replace HZw := Aside0.mk (Nat.le_trans HZw.out (below_alloc (Below.refl _ _) (.cells #[.int .i64 0, .int .i64 0, .int .i64 0, .slice none 0 0] 27)).size)
      refine hK.out _ _ ⟨((blk_cell Kgb0.out 0).trans rfl), ((blk_cell Kgb0.out 1).trans rfl), ((blk_cell Kgb0.out 2).trans rfl), ((blk_cell Kgb0.out 3).trans rfl), ((blk_cell Kgb1.out 0).trans rfl), ((blk_cell Kgb1.out 1).trans rfl), ((blk_cell Kgb1.out 2).trans rfl), ((blk_cell Kgb1.out 3).trans rfl)⟩ (fun hHeld => ?_)
      clear hK K
      refine norm_ (a' := ?_) ?_ ?_
      rotate_left
      · show Act.put _ (some 8) _ = _
        simp only [Act.put, List.setIfInBounds_toArray, List.set_cons_zero, List.set_cons_succ, i64_w, i32_w]
        rfl
      refine one_ (i := 1) (N := some 37) #[true, true, true, false, true, false, false, false, false, false, true, false, false] rfl rfl (by kernel_rfl) (by decide) (fun K hK => ?_)
      refine goes_ Try.func22 (by kernel_rfl) rfl #[.agg #[.int .i64 a0_0, .int .i64 a0_1, .int .i64 a0_2, .slice A0_3 l0_3.length c0_3]] (by rfl) rfl rfl (by simp only [List.map_toArray, List.map_cons, List.map_nil]; rfl) ?_
      refine (laws_toImage.calls k a0_0 a0_1 a0_2 A0_3 c0_3 l0_3 x0_0 x0_1 x0_2 x0_3 _ (Kd.C_below HR0.out HB.out) HC0.out HT0.out).mono ?_
      rintro e w17 ⟨vt_, rfl, hr_, hb_⟩
      refine ⟨_, rfl, ?_⟩
      replace HB := Aside0.mk (below_then HB.out HB.out.size hb_)
      replace Kgb0 := Aside0.mk (blk_below Kgb0.out hb_)
      replace Kgb1 := Aside0.mk (blk_below Kgb1.out hb_)
      replace KA_ := Aside0.mk (blk_below KA_.out hb_)
      replace HZw := Aside0.mk (Nat.le_trans HZw.out hb_.size)
      obtain ⟨At0, ct0, rfl, hl_, hC_⟩ := Kd.R_reads hr_
      have HT_0 := Aside0.mk hC_
      have HL_0 := Aside0.mk hl_
      clear hr_ hb_ hl_ hC_
      refine hK.out _ _ ⟨((blk_cell Kgb0.out 0).trans rfl), ((blk_cell Kgb0.out 1).trans rfl), ((blk_cell Kgb0.out 2).trans rfl), ((blk_cell Kgb0.out 3).trans rfl), ((blk_cell Kgb1.out 0).trans rfl), ((blk_cell Kgb1.out 1).trans rfl), ((blk_cell Kgb1.out 2).trans rfl), ((blk_cell Kgb1.out 3).trans rfl)⟩ (fun hHeld => ?_)
      clear hK K
      refine norm_ (a' := ?_) ?_ ?_
      rotate_left
      · show Act.put _ (some 37) _ = _
        simp only [Act.put, List.setIfInBounds_toArray, List.set_cons_zero, List.set_cons_succ, i64_w, i32_w]
        rfl
      refine one_ (i := 3) (N := some 39) #[true, true, true, true, true, false, false, false, false, false, true, false, false] rfl rfl (by kernel_rfl) (by decide) (fun K hK => ?_)
      refine goes_ Try.func22 (by kernel_rfl) rfl #[.agg #[.int .i64 a1_0, .int .i64 a1_1, .int .i64 a1_2, .slice A1_3 l1_3.length c1_3]] (by rfl) rfl rfl (by simp only [List.map_toArray, List.map_cons, List.map_nil]; rfl) ?_
      with_reducible refine (laws_toImage.calls k a1_0 a1_1 a1_2 A1_3 c1_3 l1_3 x1_0 x1_1 x1_2 x1_3 _ (Kd.C_below HR1.out HB.out) HC1.out HT1.out).mono ?_
      rintro e w18 ⟨vt_, rfl, hr_, hb_⟩
      refine ⟨_, rfl, ?_⟩
      replace HB := Aside0.mk (below_then HB.out HB.out.size hb_)
      replace Kgb0 := Aside0.mk (blk_below Kgb0.out hb_)
      replace Kgb1 := Aside0.mk (blk_below Kgb1.out hb_)
      replace HT_0 := Aside0.mk (Kd.C_below HT_0.out hb_)
      replace KA_ := Aside0.mk (blk_below KA_.out hb_)
      replace HZw := Aside0.mk (Nat.le_trans HZw.out hb_.size)
      obtain ⟨At1, ct1, rfl, hl_, hC_⟩ := Kd.R_reads hr_
      have HT_1 := Aside0.mk hC_
      have HL_1 := Aside0.mk hl_
      clear hr_ hb_ hl_ hC_
      refine hK.out _ _ ⟨((blk_cell Kgb0.out 0).trans rfl), ((blk_cell Kgb0.out 1).trans rfl), ((blk_cell Kgb0.out 2).trans rfl), ((blk_cell Kgb0.out 3).trans rfl), ((blk_cell Kgb1.out 0).trans rfl), ((blk_cell Kgb1.out 1).trans rfl), ((blk_cell Kgb1.out 2).trans rfl), ((blk_cell Kgb1.out 3).trans rfl)⟩ (fun hHeld => ?_)
      clear hK K
      refine norm_ (a' := ?_) ?_ ?_
      rotate_left
      · show Act.put _ (some 39) _ = _
        simp only [Act.put, List.setIfInBounds_toArray, List.set_cons_zero, List.set_cons_succ, i64_w, i32_w]
        rfl
      refine one_ (i := 5) (N := some 41) #[true, true, true, true, true, true, false, false, false, false, true, false, false] rfl rfl (by kernel_rfl) (by decide) (fun K hK => ?_)
      refine goes_ Try.func73 (by kernel_rfl) rfl #[.slice A2_0 l2_0.length c2_0] (by rfl) rfl rfl (by simp only [List.map_toArray, List.map_cons, List.map_nil]; rfl) ?_
      with_reducible refine (laws_toBoxS.calls k A2_0 c2_0 l2_0 x2_0 _ (Kd.C_below HR2.out HB.out) HC2.out HT2.out).mono ?_
      rintro e w19 ⟨vt_, rfl, hr_, hb_⟩
      refine ⟨_, rfl, ?_⟩
      replace HB := Aside0.mk (below_then HB.out HB.out.size hb_)
      replace Kgb0 := Aside0.mk (blk_below Kgb0.out hb_)
      replace Kgb1 := Aside0.mk (blk_below Kgb1.out hb_)
      replace HT_0 := Aside0.mk (Kd.C_below HT_0.out hb_)
      replace HT_1 := Aside0.mk (Kd.C_below HT_1.out hb_)
      replace KA_ := Aside0.mk (blk_below KA_.out hb_)
      replace HZw := Aside0.mk (Nat.le_trans HZw.out hb_.size)
      obtain ⟨At2, ct2, rfl, hl_, hC_⟩ := Kd.R_reads hr_
      have HT_2 := Aside0.mk hC_
      have HL_2 := Aside0.mk hl_
      clear hr_ hb_ hl_ hC_
      refine hK.out _ _ ⟨((blk_cell Kgb0.out 0).trans rfl), ((blk_cell Kgb0.out 1).trans rfl), ((blk_cell Kgb0.out 2).trans rfl), ((blk_cell Kgb0.out 3).trans rfl), ((blk_cell Kgb1.out 0).trans rfl), ((blk_cell Kgb1.out 1).trans rfl), ((blk_cell Kgb1.out 2).trans rfl), ((blk_cell Kgb1.out 3).trans rfl)⟩ (fun hHeld => ?_)
      clear hK K
      refine norm_ (a' := ?_) ?_ ?_
      rotate_left
      · show Act.put _ (some 41) _ = _
        simp only [Act.put, List.setIfInBounds_toArray, List.set_cons_zero, List.set_cons_succ, i64_w, i32_w]
        rfl
      refine one_ (i := 6) (N := some 42) #[true, true, true, true, true, true, true, false, false, false, true, false, false] rfl rfl (by kernel_rfl) (by decide) (fun K hK => ?_)
      refine goes_ Try.func72 (by kernel_rfl) rfl #[.agg #[.int .i64 x0_0, .int .i64 x0_1, .int .i64 x0_2, .slice At0 x0_3.length ct0], .agg #[.int .i64 x1_0, .int .i64 x1_1, .int .i64 x1_2, .slice At1 x1_3.length ct1], .slice At2 x2_0.length ct2] (by rfl) rfl rfl (by simp only [List.map_toArray, List.map_cons, List.map_nil]; rfl) ?_
      with_reducible refine (spec_PatchImage.calls k x0_0 x0_1 x0_2 At0 ct0 x0_3 x1_0 x1_1 x1_2 At1 ct1 x1_3 At2 ct2 x2_0 v0 v1 v2 v3 vok _ HT_0.out HL_0.out HT_1.out HL_1.out HT_2.out HL_2.out HSP.out).mono ?_
      rintro e w20 ⟨vw_, rfl, hr_, hb_⟩
      refine ⟨_, rfl, ?_⟩
      have HZp_ := HZw
      have HBp_ := HB
      replace HB := Aside0.mk (below_then HB.out HB.out.size hb_)
      replace Kgb0 := Aside0.mk (blk_below Kgb0.out hb_)
      replace Kgb1 := Aside0.mk (blk_below Kgb1.out hb_)
      replace HT_0 := Aside0.mk (Kd.C_below HT_0.out hb_)
      replace HT_1 := Aside0.mk (Kd.C_below HT_1.out hb_)
      replace HT_2 := Aside0.mk (Kd.C_below HT_2.out hb_)
      replace KA_ := Aside0.mk (blk_below KA_.out hb_)
      replace HZw := Aside0.mk (Nat.le_trans HZw.out hb_.size)
      have Rw := Aside0.mk (Kd.R_lower (Kd.R_mono (Kd.R_bound hr_) (fun k_ hk_ => (⟨Nat.le_trans HZp_.out hk_.2.1, hk_.2.2.1⟩ : wz2.heap.size ≤ k_ ∧ k_ < w20.heap.size))) HBp_.out.size)
      clear hr_ hb_ HZp_ HBp_
      refine hK.out _ _ ⟨((blk_cell Kgb0.out 0).trans rfl), ((blk_cell Kgb0.out 1).trans rfl), ((blk_cell Kgb0.out 2).trans rfl), ((blk_cell Kgb0.out 3).trans rfl), ((blk_cell Kgb1.out 0).trans rfl), ((blk_cell Kgb1.out 1).trans rfl), ((blk_cell Kgb1.out 2).trans rfl), ((blk_cell Kgb1.out 3).trans rfl)⟩ (fun hHeld => ?_)
      clear hK K
      refine norm_ (a' := ?_) ?_ ?_
      rotate_left
      · show Act.put _ (some 42) _ = _
        simp only [Act.put, List.setIfInBounds_toArray, List.set_cons_zero, List.set_cons_succ, i64_w, i32_w]
        rfl
      refine pure_ (i := 7) (N := some 35) (v := ?_) (a' := ?_) #[true, true, true, true, true, true, true, true, false, false, true, false, false] rfl rfl (by kernel_rfl) (fun _ _ _ h => h) (Or.inl ⟨by rfl, ?_⟩) ?_ ?_
      rotate_left
      · intro w'
        go_simp
        with_reducible rfl
      rotate_left
      · simp only [Act.put, List.setIfInBounds_toArray, List.set_cons_zero, List.set_cons_succ, i64_w, i32_w]
        rfl
      refine pure_ (i := 8) (N := some 43) (v := ?_) (a' := ?_) #[true, true, true, true, true, true, true, true, true, false, true, false, false] rfl rfl (by kernel_rfl) (fun _ _ _ h => h) (Or.inl ⟨by rfl, ?_⟩) ?_ ?_
      rotate_left
      · intro w'
        go_simp
        with_reducible rfl
      rotate_left
      · simp only [Act.put, List.setIfInBounds_toArray, List.set_cons_zero, List.set_cons_succ, i64_w, i32_w]
        rfl
      refine pure_ (i := 9) (N := some 44) (v := ?_) (a' := ?_) #[true, true, true, true, true, true, true, true, true, true, true, false, false] rfl rfl (by kernel_rfl) (fun _ _ _ h => h) (Or.inl ⟨by rfl, ?_⟩) ?_ ?_
      rotate_left
      · intro w'
        go_simp
        with_reducible rfl
      rotate_left
      · simp only [Act.put, List.setIfInBounds_toArray, List.set_cons_zero, List.set_cons_succ, i64_w, i32_w]
        rfl
      exact norm_ (by first | (simp only [putAll, Act.put, List.setIfInBounds_toArray, List.set_cons_zero, List.set_cons_succ]; done) | (simp only [putAll, Act.put, List.setIfInBounds_toArray, List.set_cons_zero, List.set_cons_succ]; rfl)) (hCont (.slice At0 x0_3.length ct0, .slice At1 x1_3.length ct1, .slice At2 x2_0.length ct2, vw_, wz2.drew.heap.size) _ ⟨Rw.out, KA_.out, GA_.out, Kgb0.out, Kgb1.out, HB.out, HZw.out⟩)
  rintro ⟨vt0_w, vt1_w, vt2_w, vvw, gw⟩ w1 ⟨hR_, hA_, hg_, hk_0, hk_1, hB_, hZ_⟩
  dsimp only at hR_ hA_ hg_
  obtain ⟨Aw, cw, ev_⟩ := Kd.R_slice hR_
  subst ev_
  have Rw := Aside0.mk hR_
  have Kgw := Aside0.mk hA_
  have Zgw := Aside0.mk hg_
  have HB := Aside0.mk hB_
  have HZw := Aside0.mk hZ_
  have Kgb0 := Aside0.mk hk_0
  have Kgb1 := Aside0.mk hk_1
  clear hR_ hA_ hg_ hB_ hZ_ hk_0 hk_1
  have hHeld : w1.cell? ⟨gb0, 0, none⟩ = some (.int .i64 a0_0) ∧ w1.cell? ⟨gb0, 1, none⟩ = some (.int .i64 a0_1) ∧ w1.cell? ⟨gb0, 2, none⟩ = some (.int .i64 a0_2) ∧ w1.cell? ⟨gb0, 3, none⟩ = some (.slice A0_3 l0_3.length c0_3) ∧ w1.cell? ⟨gb1, 0, none⟩ = some (.int .i64 a1_0) ∧ w1.cell? ⟨gb1, 1, none⟩ = some (.int .i64 a1_1) ∧ w1.cell? ⟨gb1, 2, none⟩ = some (.int .i64 a1_2) ∧ w1.cell? ⟨gb1, 3, none⟩ = some (.slice A1_3 l1_3.length c1_3) := ⟨((blk_cell Kgb0.out 0).trans rfl), ((blk_cell Kgb0.out 1).trans rfl), ((blk_cell Kgb0.out 2).trans rfl), ((blk_cell Kgb0.out 3).trans rfl), ((blk_cell Kgb1.out 0).trans rfl), ((blk_cell Kgb1.out 1).trans rfl), ((blk_cell Kgb1.out 2).trans rfl), ((blk_cell Kgb1.out 3).trans rfl)⟩
  refine norm_ (a' := ?_) ?_ ?_
  rotate_left
  · simp only [putAll, Act.put, List.setIfInBounds_toArray, List.set_cons_zero, List.set_cons_succ]
    rfl
  refine one_ (i := 11) (N := none) #[true, true, true, true, true, true, true, true, true, true, true, true, false] rfl rfl (by kernel_rfl) (by decide) (fun K hK => ?_)
  have qgw0 := blk_frozen Kgw.out 0
  have qgw1 := blk_frozen Kgw.out 1
  have qgw2 := blk_frozen Kgw.out 2
  have qgw3 := blk_frozen Kgw.out 3
  have cgw0 := (blk_cell Kgw.out 0).trans rfl
  have cgw1 := (blk_cell Kgw.out 1).trans rfl
  have cgw2 := (blk_cell Kgw.out 2).trans rfl
  have cgw3 := (blk_cell Kgw.out 3).trans rfl
  refine skip_ (w1 := ?_) (by rfl) rfl ?_ ?_
  rotate_left
  · go_simp
    rfl
  clear qgw0 cgw0 qgw1 cgw1 qgw2 cgw2 qgw3 cgw3
  have Kgb0_ := Aside0.mk (blk_far (p := ⟨gw, 3, none⟩) (blk_far (p := ⟨gw, 2, none⟩) (blk_far (p := ⟨gw, 1, none⟩) (blk_far (p := ⟨gw, 0, none⟩) Kgb0.out (show gb0 ≠ gw by have := Zgw.out; have := QKgb0.out; omega) (.int .i64 v0)) (show gb0 ≠ gw by have := Zgw.out; have := QKgb0.out; omega) (.int .i64 v1)) (show gb0 ≠ gw by have := Zgw.out; have := QKgb0.out; omega) (.int .i64 v2)) (show gb0 ≠ gw by have := Zgw.out; have := QKgb0.out; omega) (.slice Aw v3.length cw))
  have Kgb1_ := Aside0.mk (blk_far (p := ⟨gw, 3, none⟩) (blk_far (p := ⟨gw, 2, none⟩) (blk_far (p := ⟨gw, 1, none⟩) (blk_far (p := ⟨gw, 0, none⟩) Kgb1.out (show gb1 ≠ gw by have := Zgw.out; have := QKgb1.out; omega) (.int .i64 v0)) (show gb1 ≠ gw by have := Zgw.out; have := QKgb1.out; omega) (.int .i64 v1)) (show gb1 ≠ gw by have := Zgw.out; have := QKgb1.out; omega) (.int .i64 v2)) (show gb1 ≠ gw by have := Zgw.out; have := QKgb1.out; omega) (.slice Aw v3.length cw))
  refine hK.out _ _ ⟨((blk_cell Kgb0_.out 0).trans rfl), ((blk_cell Kgb0_.out 1).trans rfl), ((blk_cell Kgb0_.out 2).trans rfl), ((blk_cell Kgb0_.out 3).trans rfl), ((blk_cell Kgb1_.out 0).trans rfl), ((blk_cell Kgb1_.out 1).trans rfl), ((blk_cell Kgb1_.out 2).trans rfl), ((blk_cell Kgb1_.out 3).trans rfl)⟩ (fun hHeld => ?_)
  clear hK K
  refine pure_ (i := 12) (N := some 9) (v := ?_) (a' := ?_) #[true, true, true, true, true, true, true, true, true, true, true, true, true] rfl rfl (by kernel_rfl) (fun _ _ _ h => h) (Or.inl ⟨by rfl, ?_⟩) ?_ ?_
  rotate_left
  · intro w'
    go_simp
    with_reducible rfl
  rotate_left
  · simp only [Act.put, List.setIfInBounds_toArray, List.set_cons_zero, List.set_cons_succ, i64_w, i32_w]
    rfl
  refine done_ (by kernel_rfl) ?_
  obtain ⟨w21, hw21⟩ : ∃ W, W = ((((w1.setCell ⟨gw, 0, none⟩ (.int .i64 v0)).setCell ⟨gw, 1, none⟩ (.int .i64 v1)).setCell ⟨gw, 2, none⟩ (.int .i64 v2)).setCell ⟨gw, 3, none⟩ (.slice Aw v3.length cw)) := ⟨_, rfl⟩
  rw [← hw21]
  have HGgw := Aside0.mk (Nat.le_trans HB.out.size (Nat.le_refl _))
  replace HB := Aside0.mk (show Below w.heap.size w w21 from by rw [hw21]; exact (below_set (below_set (below_set (below_set HB.out (Nat.le_trans HBSw.out Zgw.out)) (Nat.le_trans HBSw.out Zgw.out)) (Nat.le_trans HBSw.out Zgw.out)) (Nat.le_trans HBSw.out Zgw.out)))
  have NZw := Aside0.mk (show wz2.heap.size ≤ w21.heap.size from by rw [hw21]; exact Nat.le_trans HZw.out (by simp [World.setCell]))
  have ZLgw := Aside0.mk (show gw < w21.heap.size from by rw [hw21]; exact Nat.lt_of_lt_of_le (blk_lt Kgw.out) (by simp [World.setCell]))
  replace Rw := Aside0.mk (show Kd.R (Kd.int .i64) 3 w21 w.heap.size (fun k_ => wz2.heap.size ≤ k_ ∧ k_ < w21.heap.size) (.slice Aw v3.length cw) v3 from by rw [hw21]; exact Kd.R_mono (Kd.R_far (Kd.R_far (Kd.R_far (Kd.R_far (Kd.R_types Rw.out Kgw.out (by decide)) (fun k hk => hk.2) _) (fun k hk => hk.2) _) (fun k hk => hk.2) _) (fun k hk => hk.2) _) (fun k hk => ⟨hk.1.1, Nat.lt_of_lt_of_le hk.1.2 (by simp [World.setCell])⟩))
  replace Kgb0 := Aside0.mk (show w21.heap[gb0]? = some (.cells #[.int .i64 a0_0, .int .i64 a0_1, .int .i64 a0_2, .slice A0_3 l0_3.length c0_3] 24 (0, 0)) from by rw [hw21]; exact Kgb0_.out)
  replace Kgb1 := Aside0.mk (show w21.heap[gb1]? = some (.cells #[.int .i64 a1_0, .int .i64 a1_1, .int .i64 a1_2, .slice A1_3 l1_3.length c1_3] 24 (0, 0)) from by rw [hw21]; exact Kgb1_.out)
  replace Kgw := Aside0.mk (show w21.heap[gw]? = some (.cells #[.int .i64 v0, .int .i64 v1, .int .i64 v2, .slice Aw v3.length cw] 27 (0, 0)) from by rw [hw21]; refine blk_put (cs := #[.int .i64 v0, .int .i64 v1, .int .i64 v2, .slice none 0 0]) ?_ 3 _ rfl; refine blk_put (cs := #[.int .i64 v0, .int .i64 v1, .int .i64 0, .slice none 0 0]) ?_ 2 _ rfl; refine blk_put (cs := #[.int .i64 v0, .int .i64 0, .int .i64 0, .slice none 0 0]) ?_ 1 _ rfl; refine blk_put (cs := #[.int .i64 0, .int .i64 0, .int .i64 0, .slice none 0 0]) ?_ 0 _ rfl; exact Kgw.out)
  clear hw21
  have cgb0w21_0 : w21.cell? ⟨gb0, 0, none⟩ = some (.int .i64 a0_0) := (blk_cell Kgb0.out 0).trans rfl; have cgb0w21_1 : w21.cell? ⟨gb0, 1, none⟩ = some (.int .i64 a0_1) := (blk_cell Kgb0.out 1).trans rfl; have cgb0w21_2 : w21.cell? ⟨gb0, 2, none⟩ = some (.int .i64 a0_2) := (blk_cell Kgb0.out 2).trans rfl; have cgb0w21_3 : w21.cell? ⟨gb0, 3, none⟩ = some (.slice A0_3 l0_3.length c0_3) := (blk_cell Kgb0.out 3).trans rfl
  go_upto_region 13 with (first
    | (go_at_call 22; (with_reducible refine (laws_toImage.calls k a0_0 a0_1 a0_2 A0_3 c0_3 l0_3 x0_0 x0_1 x0_2 x0_3 w21 (Kd.C_below HR0.out HB.out) HC0.out HT0.out).mono ?_); rintro e w22 ⟨v_, rfl, hr, hb⟩; obtain ⟨Ax0, cx0, ev_⟩ := Kd.R_slice hr; subst ev_; have Rx0 := Aside0.mk (Kd.R_lower (Kd.R_mono (Kd.R_bound hr) (fun k_ hk_ => (⟨hk_.2.1, hk_.2.2.1⟩ : w21.heap.size ≤ k_ ∧ k_ < w22.heap.size))) HB.out.size); replace HB := Aside0.mk (below_then HB.out HB.out.size hb); replace Kgb0 := Aside0.mk (blk_below Kgb0.out hb); replace Kgb1 := Aside0.mk (blk_below Kgb1.out hb); replace Kgw := Aside0.mk (blk_below Kgw.out hb); replace Rw := Aside0.mk (Kd.R_below Rw.out hb); have Zw22 := Aside0.mk hb.size; clear hr hb))
  try clear cgb0w21_0 cgb0w21_1 cgb0w21_2 cgb0w21_3
  obtain ⟨w23, hw23⟩ : ∃ W, W = w22.alloc (.cells #[.int .i64 x0_0, .int .i64 x0_1, .int .i64 x0_2, .slice Ax0 x0_3.length cx0] 27) := ⟨_, rfl⟩
  obtain ⟨gx0, hgx0⟩ : ∃ g, g = w22.heap.size := ⟨_, rfl⟩
  rw [← hw23, ← hgx0]
  have Kgx0 := Aside0.mk (show w23.heap[gx0]? = some (.cells #[.int .i64 x0_0, .int .i64 x0_1, .int .i64 x0_2, .slice Ax0 x0_3.length cx0] 27 (0, 0)) from by rw [hw23, hgx0]; exact blk_new _ _)
  replace HB := Aside0.mk (show Below w.heap.size w w23 from by rw [hw23]; exact below_alloc HB.out _)
  replace Kgb0 := Aside0.mk (show w23.heap[gb0]? = some (.cells #[.int .i64 a0_0, .int .i64 a0_1, .int .i64 a0_2, .slice A0_3 l0_3.length c0_3] 24 (0, 0)) from by rw [hw23]; exact blk_alloc Kgb0.out _)
  replace Kgb1 := Aside0.mk (show w23.heap[gb1]? = some (.cells #[.int .i64 a1_0, .int .i64 a1_1, .int .i64 a1_2, .slice A1_3 l1_3.length c1_3] 24 (0, 0)) from by rw [hw23]; exact blk_alloc Kgb1.out _)
  replace Kgw := Aside0.mk (show w23.heap[gw]? = some (.cells #[.int .i64 v0, .int .i64 v1, .int .i64 v2, .slice Aw v3.length cw] 27 (0, 0)) from by rw [hw23]; exact blk_alloc Kgw.out _)
  replace Rw := Aside0.mk (show Kd.R (Kd.int .i64) 3 w23 w.heap.size (fun k_ => wz2.heap.size ≤ k_ ∧ k_ < w21.heap.size) (.slice Aw v3.length cw) v3 from by rw [hw23]; exact Kd.R_alloc Rw.out _)
  replace Rx0 := Aside0.mk (show Kd.R (Kd.int .i64) 3 w23 w.heap.size (fun k_ => w21.heap.size ≤ k_ ∧ k_ < w22.heap.size) (.slice Ax0 x0_3.length cx0) x0_3 from by rw [hw23]; exact Kd.R_alloc Rx0.out _)
  have Zw23 := Aside0.mk (show w22.heap.size < w23.heap.size from by rw [hw23]; simp [World.size_alloc])
  have Zgx0 := Aside0.mk (show w22.heap.size ≤ gx0 from Nat.le_of_eq hgx0.symm)
  have ZLgx0 := Aside0.mk (blk_lt Kgx0.out)
  clear hw23 hgx0
  have cgb1w23_0 : w23.cell? ⟨gb1, 0, none⟩ = some (.int .i64 a1_0) := (blk_cell Kgb1.out 0).trans rfl; have cgb1w23_1 : w23.cell? ⟨gb1, 1, none⟩ = some (.int .i64 a1_1) := (blk_cell Kgb1.out 1).trans rfl; have cgb1w23_2 : w23.cell? ⟨gb1, 2, none⟩ = some (.int .i64 a1_2) := (blk_cell Kgb1.out 2).trans rfl; have cgb1w23_3 : w23.cell? ⟨gb1, 3, none⟩ = some (.slice A1_3 l1_3.length c1_3) := (blk_cell Kgb1.out 3).trans rfl
  go_upto_region 14 with (first
    | (go_at_call 22; (with_reducible refine (laws_toImage.calls k a1_0 a1_1 a1_2 A1_3 c1_3 l1_3 x1_0 x1_1 x1_2 x1_3 w23 (Kd.C_below HR1.out HB.out) HC1.out HT1.out).mono ?_); rintro e w24 ⟨v_, rfl, hr, hb⟩; obtain ⟨Ax1, cx1, ev_⟩ := Kd.R_slice hr; subst ev_; have Rx1 := Aside0.mk (Kd.R_lower (Kd.R_mono (Kd.R_bound hr) (fun k_ hk_ => (⟨hk_.2.1, hk_.2.2.1⟩ : w23.heap.size ≤ k_ ∧ k_ < w24.heap.size))) HB.out.size); replace HB := Aside0.mk (below_then HB.out HB.out.size hb); replace Kgb0 := Aside0.mk (blk_below Kgb0.out hb); replace Kgb1 := Aside0.mk (blk_below Kgb1.out hb); replace Kgw := Aside0.mk (blk_below Kgw.out hb); replace Kgx0 := Aside0.mk (blk_below Kgx0.out hb); replace Rw := Aside0.mk (Kd.R_below Rw.out hb); replace Rx0 := Aside0.mk (Kd.R_below Rx0.out hb); have Zw24 := Aside0.mk hb.size; clear hr hb))
  try clear cgb1w23_0 cgb1w23_1 cgb1w23_2 cgb1w23_3
  obtain ⟨w25, hw25⟩ : ∃ W, W = w24.alloc (.cells #[.int .i64 x1_0, .int .i64 x1_1, .int .i64 x1_2, .slice Ax1 x1_3.length cx1] 27) := ⟨_, rfl⟩
  obtain ⟨gx1, hgx1⟩ : ∃ g, g = w24.heap.size := ⟨_, rfl⟩
  rw [← hw25, ← hgx1]
  have Kgx1 := Aside0.mk (show w25.heap[gx1]? = some (.cells #[.int .i64 x1_0, .int .i64 x1_1, .int .i64 x1_2, .slice Ax1 x1_3.length cx1] 27 (0, 0)) from by rw [hw25, hgx1]; exact blk_new _ _)
  replace HB := Aside0.mk (show Below w.heap.size w w25 from by rw [hw25]; exact below_alloc HB.out _)
  replace Kgb0 := Aside0.mk (show w25.heap[gb0]? = some (.cells #[.int .i64 a0_0, .int .i64 a0_1, .int .i64 a0_2, .slice A0_3 l0_3.length c0_3] 24 (0, 0)) from by rw [hw25]; exact blk_alloc Kgb0.out _)
  replace Kgb1 := Aside0.mk (show w25.heap[gb1]? = some (.cells #[.int .i64 a1_0, .int .i64 a1_1, .int .i64 a1_2, .slice A1_3 l1_3.length c1_3] 24 (0, 0)) from by rw [hw25]; exact blk_alloc Kgb1.out _)
  replace Kgw := Aside0.mk (show w25.heap[gw]? = some (.cells #[.int .i64 v0, .int .i64 v1, .int .i64 v2, .slice Aw v3.length cw] 27 (0, 0)) from by rw [hw25]; exact blk_alloc Kgw.out _)
  replace Kgx0 := Aside0.mk (show w25.heap[gx0]? = some (.cells #[.int .i64 x0_0, .int .i64 x0_1, .int .i64 x0_2, .slice Ax0 x0_3.length cx0] 27 (0, 0)) from by rw [hw25]; exact blk_alloc Kgx0.out _)
  replace Rw := Aside0.mk (show Kd.R (Kd.int .i64) 3 w25 w.heap.size (fun k_ => wz2.heap.size ≤ k_ ∧ k_ < w21.heap.size) (.slice Aw v3.length cw) v3 from by rw [hw25]; exact Kd.R_alloc Rw.out _)
  replace Rx0 := Aside0.mk (show Kd.R (Kd.int .i64) 3 w25 w.heap.size (fun k_ => w21.heap.size ≤ k_ ∧ k_ < w22.heap.size) (.slice Ax0 x0_3.length cx0) x0_3 from by rw [hw25]; exact Kd.R_alloc Rx0.out _)
  replace Rx1 := Aside0.mk (show Kd.R (Kd.int .i64) 3 w25 w.heap.size (fun k_ => w23.heap.size ≤ k_ ∧ k_ < w24.heap.size) (.slice Ax1 x1_3.length cx1) x1_3 from by rw [hw25]; exact Kd.R_alloc Rx1.out _)
  have Zw25 := Aside0.mk (show w24.heap.size < w25.heap.size from by rw [hw25]; simp [World.size_alloc])
  have Zgx1 := Aside0.mk (show w24.heap.size ≤ gx1 from Nat.le_of_eq hgx1.symm)
  have ZLgx1 := Aside0.mk (blk_lt Kgx1.out)
  clear hw25 hgx1
  go_upto_region 15 with (first
    | (go_at_call 73; (with_reducible refine (laws_toBoxS.calls k A2_0 c2_0 l2_0 x2_0 w25 (Kd.C_below HR2.out HB.out) HC2.out HT2.out).mono ?_); rintro e w26 ⟨v_, rfl, hr, hb⟩; obtain ⟨Ax2, cx2, ev_⟩ := Kd.R_slice hr; subst ev_; have Rx2 := Aside0.mk (Kd.R_lower (Kd.R_mono (Kd.R_bound hr) (fun k_ hk_ => (⟨hk_.2.1, hk_.2.2.1⟩ : w25.heap.size ≤ k_ ∧ k_ < w26.heap.size))) HB.out.size); replace HB := Aside0.mk (below_then HB.out HB.out.size hb); replace Kgb0 := Aside0.mk (blk_below Kgb0.out hb); replace Kgb1 := Aside0.mk (blk_below Kgb1.out hb); replace Kgw := Aside0.mk (blk_below Kgw.out hb); replace Kgx0 := Aside0.mk (blk_below Kgx0.out hb); replace Kgx1 := Aside0.mk (blk_below Kgx1.out hb); replace Rw := Aside0.mk (Kd.R_below Rw.out hb); replace Rx0 := Aside0.mk (Kd.R_below Rx0.out hb); replace Rx1 := Aside0.mk (Kd.R_below Rx1.out hb); have Zw26 := Aside0.mk hb.size; clear hr hb))
  have cgx0w26_0 : w26.cell? ⟨gx0, 0, none⟩ = some (.int .i64 x0_0) := (blk_cell Kgx0.out 0).trans rfl; have cgx0w26_1 : w26.cell? ⟨gx0, 1, none⟩ = some (.int .i64 x0_1) := (blk_cell Kgx0.out 1).trans rfl; have cgx0w26_2 : w26.cell? ⟨gx0, 2, none⟩ = some (.int .i64 x0_2) := (blk_cell Kgx0.out 2).trans rfl; have cgx0w26_3 : w26.cell? ⟨gx0, 3, none⟩ = some (.slice Ax0 x0_3.length cx0) := (blk_cell Kgx0.out 3).trans rfl
  have cgx1w26_0 : w26.cell? ⟨gx1, 0, none⟩ = some (.int .i64 x1_0) := (blk_cell Kgx1.out 0).trans rfl; have cgx1w26_1 : w26.cell? ⟨gx1, 1, none⟩ = some (.int .i64 x1_1) := (blk_cell Kgx1.out 1).trans rfl; have cgx1w26_2 : w26.cell? ⟨gx1, 2, none⟩ = some (.int .i64 x1_2) := (blk_cell Kgx1.out 2).trans rfl; have cgx1w26_3 : w26.cell? ⟨gx1, 3, none⟩ = some (.slice Ax1 x1_3.length cx1) := (blk_cell Kgx1.out 3).trans rfl
  go_upto_region 16 with (first
    | (go_at_call 74; (with_reducible refine (impl_PatchImage.calls k x0_0 x0_1 x0_2 Ax0 cx0 x0_3 x1_0 x1_1 x1_2 Ax1 cx1 x1_3 Ax2 cx2 x2_0 v0 v1 v2 v3 vok w26 (Kd.R_reads' Rx0.out).2.2 (Kd.R_reads' Rx0.out).2.1 (Kd.R_reads' Rx1.out).2.2 (Kd.R_reads' Rx1.out).2.1 (Kd.R_reads' Rx2.out).2.2 (Kd.R_reads' Rx2.out).2.1 HIM.out).mono ?_); rintro e w27 ⟨v_, rfl, hr, hb⟩; obtain ⟨Ag, cg, ev_⟩ := Kd.R_slice hr; subst ev_; have Rg := Aside0.mk (Kd.R_lower (Kd.R_mono (Kd.R_bound hr) (fun k_ hk_ => (⟨hk_.2.1, hk_.2.2.1⟩ : w26.heap.size ≤ k_ ∧ k_ < w27.heap.size))) HB.out.size); replace HB := Aside0.mk (below_then HB.out HB.out.size hb); replace Kgb0 := Aside0.mk (blk_below Kgb0.out hb); replace Kgb1 := Aside0.mk (blk_below Kgb1.out hb); replace Kgw := Aside0.mk (blk_below Kgw.out hb); replace Kgx0 := Aside0.mk (blk_below Kgx0.out hb); replace Kgx1 := Aside0.mk (blk_below Kgx1.out hb); replace Rw := Aside0.mk (Kd.R_below Rw.out hb); replace Rx0 := Aside0.mk (Kd.R_below Rx0.out hb); replace Rx1 := Aside0.mk (Kd.R_below Rx1.out hb); replace Rx2 := Aside0.mk (Kd.R_below Rx2.out hb); have Zw27 := Aside0.mk hb.size; clear hr hb))
  try clear cgx0w26_0 cgx0w26_1 cgx0w26_2 cgx0w26_3 cgx1w26_0 cgx1w26_1 cgx1w26_2 cgx1w26_3
  obtain ⟨w28, hw28⟩ : ∃ W, W = w27.alloc (.cells #[.int .i64 v0, .int .i64 v1, .int .i64 v2, .slice Ag v3.length cg] 27) := ⟨_, rfl⟩
  obtain ⟨gg, hgg⟩ : ∃ g, g = w27.heap.size := ⟨_, rfl⟩
  rw [← hw28, ← hgg]
  have Kgg := Aside0.mk (show w28.heap[gg]? = some (.cells #[.int .i64 v0, .int .i64 v1, .int .i64 v2, .slice Ag v3.length cg] 27 (0, 0)) from by rw [hw28, hgg]; exact blk_new _ _)
  replace HB := Aside0.mk (show Below w.heap.size w w28 from by rw [hw28]; exact below_alloc HB.out _)
  replace Kgb0 := Aside0.mk (show w28.heap[gb0]? = some (.cells #[.int .i64 a0_0, .int .i64 a0_1, .int .i64 a0_2, .slice A0_3 l0_3.length c0_3] 24 (0, 0)) from by rw [hw28]; exact blk_alloc Kgb0.out _)
  replace Kgb1 := Aside0.mk (show w28.heap[gb1]? = some (.cells #[.int .i64 a1_0, .int .i64 a1_1, .int .i64 a1_2, .slice A1_3 l1_3.length c1_3] 24 (0, 0)) from by rw [hw28]; exact blk_alloc Kgb1.out _)
  replace Kgw := Aside0.mk (show w28.heap[gw]? = some (.cells #[.int .i64 v0, .int .i64 v1, .int .i64 v2, .slice Aw v3.length cw] 27 (0, 0)) from by rw [hw28]; exact blk_alloc Kgw.out _)
  replace Kgx0 := Aside0.mk (show w28.heap[gx0]? = some (.cells #[.int .i64 x0_0, .int .i64 x0_1, .int .i64 x0_2, .slice Ax0 x0_3.length cx0] 27 (0, 0)) from by rw [hw28]; exact blk_alloc Kgx0.out _)
  replace Kgx1 := Aside0.mk (show w28.heap[gx1]? = some (.cells #[.int .i64 x1_0, .int .i64 x1_1, .int .i64 x1_2, .slice Ax1 x1_3.length cx1] 27 (0, 0)) from by rw [hw28]; exact blk_alloc Kgx1.out _)
  replace Rw := Aside0.mk (show Kd.R (Kd.int .i64) 3 w28 w.heap.size (fun k_ => wz2.heap.size ≤ k_ ∧ k_ < w21.heap.size) (.slice Aw v3.length cw) v3 from by rw [hw28]; exact Kd.R_alloc Rw.out _)
  replace Rx0 := Aside0.mk (show Kd.R (Kd.int .i64) 3 w28 w.heap.size (fun k_ => w21.heap.size ≤ k_ ∧ k_ < w22.heap.size) (.slice Ax0 x0_3.length cx0) x0_3 from by rw [hw28]; exact Kd.R_alloc Rx0.out _)
  replace Rx1 := Aside0.mk (show Kd.R (Kd.int .i64) 3 w28 w.heap.size (fun k_ => w23.heap.size ≤ k_ ∧ k_ < w24.heap.size) (.slice Ax1 x1_3.length cx1) x1_3 from by rw [hw28]; exact Kd.R_alloc Rx1.out _)
  replace Rx2 := Aside0.mk (show Kd.R k47 47 w28 w.heap.size (fun k_ => w25.heap.size ≤ k_ ∧ k_ < w26.heap.size) (.slice Ax2 x2_0.length cx2) x2_0 from by rw [hw28]; exact Kd.R_alloc Rx2.out _)
  replace Rg := Aside0.mk (show Kd.R (Kd.int .i64) 3 w28 w.heap.size (fun k_ => w26.heap.size ≤ k_ ∧ k_ < w27.heap.size) (.slice Ag v3.length cg) v3 from by rw [hw28]; exact Kd.R_alloc Rg.out _)
  have Zw28 := Aside0.mk (show w27.heap.size < w28.heap.size from by rw [hw28]; simp [World.size_alloc])
  have Zgg := Aside0.mk (show w27.heap.size ≤ gg from Nat.le_of_eq hgg.symm)
  have ZLgg := Aside0.mk (blk_lt Kgg.out)
  clear hw28 hgg
  have hbn : (vok != vok) = false := by simp
  have cggw28_0 : w28.cell? ⟨gg, 0, none⟩ = some (.int .i64 v0) := (blk_cell Kgg.out 0).trans rfl; have cggw28_1 : w28.cell? ⟨gg, 1, none⟩ = some (.int .i64 v1) := (blk_cell Kgg.out 1).trans rfl; have cggw28_2 : w28.cell? ⟨gg, 2, none⟩ = some (.int .i64 v2) := (blk_cell Kgg.out 2).trans rfl; have cggw28_3 : w28.cell? ⟨gg, 3, none⟩ = some (.slice Ag v3.length cg) := (blk_cell Kgg.out 3).trans rfl
  have cgww28_0 : w28.cell? ⟨gw, 0, none⟩ = some (.int .i64 v0) := (blk_cell Kgw.out 0).trans rfl; have cgww28_1 : w28.cell? ⟨gw, 1, none⟩ = some (.int .i64 v1) := (blk_cell Kgw.out 1).trans rfl; have cgww28_2 : w28.cell? ⟨gw, 2, none⟩ = some (.int .i64 v2) := (blk_cell Kgw.out 2).trans rfl; have cgww28_3 : w28.cell? ⟨gw, 3, none⟩ = some (.slice Aw v3.length cw) := (blk_cell Kgw.out 3).trans rfl
  go_upto_region 18 with (first
    | (go_at_call 24; (with_reducible refine (laws_eqImage.calls k v0 v1 v2 Ag cg v3 v0 v1 v2 Aw cw v3 true w28 (Kd.R_reads' Rg.out).2.2 (Kd.R_reads' Rg.out).2.1 (Kd.R_reads' Rw.out).2.2 (Kd.R_reads' Rw.out).2.1 HEV.out rfl).mono ?_); rintro e w29 ⟨rfl, hb⟩; replace HB := Aside0.mk (below_then HB.out HB.out.size hb); replace Kgb0 := Aside0.mk (blk_below Kgb0.out hb); replace Kgb1 := Aside0.mk (blk_below Kgb1.out hb); replace Kgw := Aside0.mk (blk_below Kgw.out hb); replace Kgx0 := Aside0.mk (blk_below Kgx0.out hb); replace Kgx1 := Aside0.mk (blk_below Kgx1.out hb); replace Kgg := Aside0.mk (blk_below Kgg.out hb); replace Rw := Aside0.mk (Kd.R_below Rw.out hb); replace Rx0 := Aside0.mk (Kd.R_below Rx0.out hb); replace Rx1 := Aside0.mk (Kd.R_below Rx1.out hb); replace Rx2 := Aside0.mk (Kd.R_below Rx2.out hb); replace Rg := Aside0.mk (Kd.R_below Rg.out hb); have Zw29 := Aside0.mk hb.size; clear hb))
  try clear cggw28_0 cggw28_1 cggw28_2 cggw28_3 cgww28_0 cgww28_1 cgww28_2 cgww28_3
  replace HB := Aside0.mk (below_drew HB.out)
  replace Kgb0 := Aside0.mk (blk_below Kgb0.out (below_drew (Below.refl _ _)))
  replace Kgb1 := Aside0.mk (blk_below Kgb1.out (below_drew (Below.refl _ _)))
  replace Kgw := Aside0.mk (blk_below Kgw.out (below_drew (Below.refl _ _)))
  replace Kgx0 := Aside0.mk (blk_below Kgx0.out (below_drew (Below.refl _ _)))
  replace Kgx1 := Aside0.mk (blk_below Kgx1.out (below_drew (Below.refl _ _)))
  replace Kgg := Aside0.mk (blk_below Kgg.out (below_drew (Below.refl _ _)))
  replace Rw := Aside0.mk (Kd.R_drew Rw.out)
  replace Rx0 := Aside0.mk (Kd.R_drew Rx0.out)
  replace Rx1 := Aside0.mk (Kd.R_drew Rx1.out)
  replace Rx2 := Aside0.mk (Kd.R_drew Rx2.out)
  replace Rg := Aside0.mk (Kd.R_drew Rg.out)
  refine start_ (n := 5) (S := fun w' => w'.cell? ⟨gx0, 0, none⟩ = some (.int .i64 x0_0) ∧ w'.cell? ⟨gx0, 1, none⟩ = some (.int .i64 x0_1) ∧ w'.cell? ⟨gx0, 2, none⟩ = some (.int .i64 x0_2) ∧ w'.cell? ⟨gx0, 3, none⟩ = some (.slice Ax0 x0_3.length cx0) ∧ w'.cell? ⟨gb0, 0, none⟩ = some (.int .i64 a0_0) ∧ w'.cell? ⟨gb0, 1, none⟩ = some (.int .i64 a0_1) ∧ w'.cell? ⟨gb0, 2, none⟩ = some (.int .i64 a0_2) ∧ w'.cell? ⟨gb0, 3, none⟩ = some (.slice A0_3 l0_3.length c0_3)) (ds := []) #[false, false, false, false, false] (by kernel_rfl) rfl rfl ⟨((blk_cell Kgx0.out 0).trans rfl), ((blk_cell Kgx0.out 1).trans rfl), ((blk_cell Kgx0.out 2).trans rfl), ((blk_cell Kgx0.out 3).trans rfl), ((blk_cell Kgb0.out 0).trans rfl), ((blk_cell Kgb0.out 1).trans rfl), ((blk_cell Kgb0.out 2).trans rfl), ((blk_cell Kgb0.out 3).trans rfl)⟩ (fun hHeld => ?_)
  refine take_ (i := 0) (N := some 67) (v := ?_) (a' := ?_) #[true, false, false, false, false] rfl rfl (by kernel_rfl) (fun _ _ _ h => h) (Or.inl ⟨by rfl, ?_⟩) hHeld ?_ ?_
  rotate_left
  · rintro w' ⟨s0, s1, s2, s3, s4, s5, s6, s7⟩
    go_simp
    with_reducible rfl
  rotate_left
  · simp only [Act.put, List.setIfInBounds_toArray, List.set_cons_zero, List.set_cons_succ, i64_w, i32_w]
    rfl
  refine take_ (i := 1) (N := some 68) (v := ?_) (a' := ?_) #[true, true, false, false, false] rfl rfl (by kernel_rfl) (fun _ _ _ h => h) (Or.inl ⟨by rfl, ?_⟩) hHeld ?_ ?_
  rotate_left
  · rintro w' ⟨s0, s1, s2, s3, s4, s5, s6, s7⟩
    go_simp
    with_reducible rfl
  rotate_left
  · simp only [Act.put, List.setIfInBounds_toArray, List.set_cons_zero, List.set_cons_succ, i64_w, i32_w]
    rfl
  refine one_ (i := 2) (N := some 69) #[true, true, true, false, false] rfl rfl (by kernel_rfl) (by decide) (fun K hK => ?_)
  refine goes_ Try.func22 (by kernel_rfl) rfl #[.agg #[.int .i64 a0_0, .int .i64 a0_1, .int .i64 a0_2, .slice A0_3 l0_3.length c0_3]] (by rfl) rfl rfl (by simp only [List.map_toArray, List.map_cons, List.map_nil]; rfl) ?_
  with_reducible refine (laws_toImage.calls k a0_0 a0_1 a0_2 A0_3 c0_3 l0_3 x0_0 x0_1 x0_2 x0_3 _ (Kd.C_below HR0.out HB.out) HC0.out HT0.out).mono ?_
  rintro e w30 ⟨vt_, rfl, hr_, hb_⟩
  refine ⟨_, rfl, ?_⟩
  obtain ⟨At_, ct_, rfl, hl_, hC_⟩ := Kd.R_reads hr_
  replace HB := Aside0.mk (below_then HB.out HB.out.size hb_)
  replace Kgb0 := Aside0.mk (blk_below Kgb0.out hb_)
  replace Kgb1 := Aside0.mk (blk_below Kgb1.out hb_)
  replace Kgw := Aside0.mk (blk_below Kgw.out hb_)
  replace Kgx0 := Aside0.mk (blk_below Kgx0.out hb_)
  replace Kgx1 := Aside0.mk (blk_below Kgx1.out hb_)
  replace Kgg := Aside0.mk (blk_below Kgg.out hb_)
  replace Rw := Aside0.mk (Kd.R_below Rw.out hb_)
  replace Rx0 := Aside0.mk (Kd.R_below Rx0.out hb_)
  replace Rx1 := Aside0.mk (Kd.R_below Rx1.out hb_)
  replace Rx2 := Aside0.mk (Kd.R_below Rx2.out hb_)
  replace Rg := Aside0.mk (Kd.R_below Rg.out hb_)
  have Zw30 := Aside0.mk hb_.size
  have HT_ := Aside0.mk hC_
  have HL_ := Aside0.mk hl_
  clear hr_ hb_ hl_ hC_
  refine hK.out _ _ ⟨((blk_cell Kgx0.out 0).trans rfl), ((blk_cell Kgx0.out 1).trans rfl), ((blk_cell Kgx0.out 2).trans rfl), ((blk_cell Kgx0.out 3).trans rfl), ((blk_cell Kgb0.out 0).trans rfl), ((blk_cell Kgb0.out 1).trans rfl), ((blk_cell Kgb0.out 2).trans rfl), ((blk_cell Kgb0.out 3).trans rfl)⟩ (fun hHeld => ?_)
  clear hK K
  refine norm_ (a' := ?_) ?_ ?_
  rotate_left
  · show Act.put _ (some 69) _ = _
    simp only [Act.put, List.setIfInBounds_toArray, List.set_cons_zero, List.set_cons_succ, i64_w, i32_w]
    rfl
  refine one_ (i := 3) (N := some 70) #[true, true, true, true, false] rfl rfl (by kernel_rfl) (by decide) (fun K hK => ?_)
  refine goes_ Try.func24 (by kernel_rfl) rfl #[.agg #[.int .i64 x0_0, .int .i64 x0_1, .int .i64 x0_2, .slice Ax0 x0_3.length cx0], .agg #[.int .i64 x0_0, .int .i64 x0_1, .int .i64 x0_2, .slice At_ x0_3.length ct_]] (by rfl) rfl rfl (by simp only [List.map_toArray, List.map_cons, List.map_nil]; rfl) ?_
  with_reducible refine (laws_eqImage.calls k x0_0 x0_1 x0_2 Ax0 cx0 x0_3 x0_0 x0_1 x0_2 At_ ct_ x0_3 true _ (Kd.R_reads' Rx0.out).2.2 (Kd.R_reads' Rx0.out).2.1 HT_.out HL_.out HE0.out rfl).mono ?_
  rintro e w31 ⟨rfl, hb_⟩
  refine ⟨_, rfl, ?_⟩
  replace HB := Aside0.mk (below_then HB.out HB.out.size hb_)
  replace Kgb0 := Aside0.mk (blk_below Kgb0.out hb_)
  replace Kgb1 := Aside0.mk (blk_below Kgb1.out hb_)
  replace Kgw := Aside0.mk (blk_below Kgw.out hb_)
  replace Kgx0 := Aside0.mk (blk_below Kgx0.out hb_)
  replace Kgx1 := Aside0.mk (blk_below Kgx1.out hb_)
  replace Kgg := Aside0.mk (blk_below Kgg.out hb_)
  replace Rw := Aside0.mk (Kd.R_below Rw.out hb_)
  replace Rx0 := Aside0.mk (Kd.R_below Rx0.out hb_)
  replace Rx1 := Aside0.mk (Kd.R_below Rx1.out hb_)
  replace Rx2 := Aside0.mk (Kd.R_below Rx2.out hb_)
  replace Rg := Aside0.mk (Kd.R_below Rg.out hb_)
  have Zw31 := Aside0.mk hb_.size
  clear hb_ HT_ HL_
  refine hK.out _ _ ⟨((blk_cell Kgx0.out 0).trans rfl), ((blk_cell Kgx0.out 1).trans rfl), ((blk_cell Kgx0.out 2).trans rfl), ((blk_cell Kgx0.out 3).trans rfl), ((blk_cell Kgb0.out 0).trans rfl), ((blk_cell Kgb0.out 1).trans rfl), ((blk_cell Kgb0.out 2).trans rfl), ((blk_cell Kgb0.out 3).trans rfl)⟩ (fun hHeld => ?_)
  clear hK K
  refine norm_ (a' := ?_) ?_ ?_
  rotate_left
  · show Act.put _ (some 70) _ = _
    simp only [Act.put, List.setIfInBounds_toArray, List.set_cons_zero, List.set_cons_succ, i64_w, i32_w]
    rfl
  refine pure_ (i := 4) (N := some 71) (v := ?_) (a' := ?_) #[true, true, true, true, true] rfl rfl (by kernel_rfl) (fun _ _ _ h => h) (Or.inl ⟨by rfl, ?_⟩) ?_ ?_
  rotate_left
  · intro w'
    go_simp
    with_reducible rfl
  rotate_left
  · simp only [Act.put, List.setIfInBounds_toArray, List.set_cons_zero, List.set_cons_succ, i64_w, i32_w]
    rfl
  refine done_ (by kernel_rfl) ?_
  clear hHeld
  go_upto_region 20 with (first
    | (fail))
  replace HB := Aside0.mk (below_drew HB.out)
  replace Kgb0 := Aside0.mk (blk_below Kgb0.out (below_drew (Below.refl _ _)))
  replace Kgb1 := Aside0.mk (blk_below Kgb1.out (below_drew (Below.refl _ _)))
  replace Kgw := Aside0.mk (blk_below Kgw.out (below_drew (Below.refl _ _)))
  replace Kgx0 := Aside0.mk (blk_below Kgx0.out (below_drew (Below.refl _ _)))
  replace Kgx1 := Aside0.mk (blk_below Kgx1.out (below_drew (Below.refl _ _)))
  replace Kgg := Aside0.mk (blk_below Kgg.out (below_drew (Below.refl _ _)))
  replace Rw := Aside0.mk (Kd.R_drew Rw.out)
  replace Rx0 := Aside0.mk (Kd.R_drew Rx0.out)
  replace Rx1 := Aside0.mk (Kd.R_drew Rx1.out)
  replace Rx2 := Aside0.mk (Kd.R_drew Rx2.out)
  replace Rg := Aside0.mk (Kd.R_drew Rg.out)
  refine start_ (n := 5) (S := fun w' => w'.cell? ⟨gx1, 0, none⟩ = some (.int .i64 x1_0) ∧ w'.cell? ⟨gx1, 1, none⟩ = some (.int .i64 x1_1) ∧ w'.cell? ⟨gx1, 2, none⟩ = some (.int .i64 x1_2) ∧ w'.cell? ⟨gx1, 3, none⟩ = some (.slice Ax1 x1_3.length cx1) ∧ w'.cell? ⟨gb1, 0, none⟩ = some (.int .i64 a1_0) ∧ w'.cell? ⟨gb1, 1, none⟩ = some (.int .i64 a1_1) ∧ w'.cell? ⟨gb1, 2, none⟩ = some (.int .i64 a1_2) ∧ w'.cell? ⟨gb1, 3, none⟩ = some (.slice A1_3 l1_3.length c1_3)) (ds := []) #[false, false, false, false, false] (by kernel_rfl) rfl rfl ⟨((blk_cell Kgx1.out 0).trans rfl), ((blk_cell Kgx1.out 1).trans rfl), ((blk_cell Kgx1.out 2).trans rfl), ((blk_cell Kgx1.out 3).trans rfl), ((blk_cell Kgb1.out 0).trans rfl), ((blk_cell Kgb1.out 1).trans rfl), ((blk_cell Kgb1.out 2).trans rfl), ((blk_cell Kgb1.out 3).trans rfl)⟩ (fun hHeld => ?_)
  refine take_ (i := 0) (N := some 72) (v := ?_) (a' := ?_) #[true, false, false, false, false] rfl rfl (by kernel_rfl) (fun _ _ _ h => h) (Or.inl ⟨by rfl, ?_⟩) hHeld ?_ ?_
  rotate_left
  · rintro w' ⟨s0, s1, s2, s3, s4, s5, s6, s7⟩
    go_simp
    with_reducible rfl
  rotate_left
  · simp only [Act.put, List.setIfInBounds_toArray, List.set_cons_zero, List.set_cons_succ, i64_w, i32_w]
    rfl
  refine take_ (i := 1) (N := some 73) (v := ?_) (a' := ?_) #[true, true, false, false, false] rfl rfl (by kernel_rfl) (fun _ _ _ h => h) (Or.inl ⟨by rfl, ?_⟩) hHeld ?_ ?_
  rotate_left
  · rintro w' ⟨s0, s1, s2, s3, s4, s5, s6, s7⟩
    go_simp
    with_reducible rfl
  rotate_left
  · simp only [Act.put, List.setIfInBounds_toArray, List.set_cons_zero, List.set_cons_succ, i64_w, i32_w]
    rfl
  refine one_ (i := 2) (N := some 74) #[true, true, true, false, false] rfl rfl (by kernel_rfl) (by decide) (fun K hK => ?_)
  refine goes_ Try.func22 (by kernel_rfl) rfl #[.agg #[.int .i64 a1_0, .int .i64 a1_1, .int .i64 a1_2, .slice A1_3 l1_3.length c1_3]] (by rfl) rfl rfl (by simp only [List.map_toArray, List.map_cons, List.map_nil]; rfl) ?_
  with_reducible refine (laws_toImage.calls k a1_0 a1_1 a1_2 A1_3 c1_3 l1_3 x1_0 x1_1 x1_2 x1_3 _ (Kd.C_below HR1.out HB.out) HC1.out HT1.out).mono ?_
  rintro e w32 ⟨vt_, rfl, hr_, hb_⟩
  refine ⟨_, rfl, ?_⟩
  obtain ⟨At_, ct_, rfl, hl_, hC_⟩ := Kd.R_reads hr_
  replace HB := Aside0.mk (below_then HB.out HB.out.size hb_)
  replace Kgb0 := Aside0.mk (blk_below Kgb0.out hb_)
  replace Kgb1 := Aside0.mk (blk_below Kgb1.out hb_)
  replace Kgw := Aside0.mk (blk_below Kgw.out hb_)
  replace Kgx0 := Aside0.mk (blk_below Kgx0.out hb_)
  replace Kgx1 := Aside0.mk (blk_below Kgx1.out hb_)
  replace Kgg := Aside0.mk (blk_below Kgg.out hb_)
  replace Rw := Aside0.mk (Kd.R_below Rw.out hb_)
  replace Rx0 := Aside0.mk (Kd.R_below Rx0.out hb_)
  replace Rx1 := Aside0.mk (Kd.R_below Rx1.out hb_)
  replace Rx2 := Aside0.mk (Kd.R_below Rx2.out hb_)
  replace Rg := Aside0.mk (Kd.R_below Rg.out hb_)
  have Zw32 := Aside0.mk hb_.size
  have HT_ := Aside0.mk hC_
  have HL_ := Aside0.mk hl_
  clear hr_ hb_ hl_ hC_
  refine hK.out _ _ ⟨((blk_cell Kgx1.out 0).trans rfl), ((blk_cell Kgx1.out 1).trans rfl), ((blk_cell Kgx1.out 2).trans rfl), ((blk_cell Kgx1.out 3).trans rfl), ((blk_cell Kgb1.out 0).trans rfl), ((blk_cell Kgb1.out 1).trans rfl), ((blk_cell Kgb1.out 2).trans rfl), ((blk_cell Kgb1.out 3).trans rfl)⟩ (fun hHeld => ?_)
  clear hK K
  refine norm_ (a' := ?_) ?_ ?_
  rotate_left
  · show Act.put _ (some 74) _ = _
    simp only [Act.put, List.setIfInBounds_toArray, List.set_cons_zero, List.set_cons_succ, i64_w, i32_w]
    rfl
  refine one_ (i := 3) (N := some 75) #[true, true, true, true, false] rfl rfl (by kernel_rfl) (by decide) (fun K hK => ?_)
  refine goes_ Try.func24 (by kernel_rfl) rfl #[.agg #[.int .i64 x1_0, .int .i64 x1_1, .int .i64 x1_2, .slice Ax1 x1_3.length cx1], .agg #[.int .i64 x1_0, .int .i64 x1_1, .int .i64 x1_2, .slice At_ x1_3.length ct_]] (by rfl) rfl rfl (by simp only [List.map_toArray, List.map_cons, List.map_nil]; rfl) ?_
  with_reducible refine (laws_eqImage.calls k x1_0 x1_1 x1_2 Ax1 cx1 x1_3 x1_0 x1_1 x1_2 At_ ct_ x1_3 true _ (Kd.R_reads' Rx1.out).2.2 (Kd.R_reads' Rx1.out).2.1 HT_.out HL_.out HE1.out rfl).mono ?_
  rintro e w33 ⟨rfl, hb_⟩
  refine ⟨_, rfl, ?_⟩
  replace HB := Aside0.mk (below_then HB.out HB.out.size hb_)
  replace Kgb0 := Aside0.mk (blk_below Kgb0.out hb_)
  replace Kgb1 := Aside0.mk (blk_below Kgb1.out hb_)
  replace Kgw := Aside0.mk (blk_below Kgw.out hb_)
  replace Kgx0 := Aside0.mk (blk_below Kgx0.out hb_)
  replace Kgx1 := Aside0.mk (blk_below Kgx1.out hb_)
  replace Kgg := Aside0.mk (blk_below Kgg.out hb_)
  replace Rw := Aside0.mk (Kd.R_below Rw.out hb_)
  replace Rx0 := Aside0.mk (Kd.R_below Rx0.out hb_)
  replace Rx1 := Aside0.mk (Kd.R_below Rx1.out hb_)
  replace Rx2 := Aside0.mk (Kd.R_below Rx2.out hb_)
  replace Rg := Aside0.mk (Kd.R_below Rg.out hb_)
  have Zw33 := Aside0.mk hb_.size
  clear hb_ HT_ HL_
  refine hK.out _ _ ⟨((blk_cell Kgx1.out 0).trans rfl), ((blk_cell Kgx1.out 1).trans rfl), ((blk_cell Kgx1.out 2).trans rfl), ((blk_cell Kgx1.out 3).trans rfl), ((blk_cell Kgb1.out 0).trans rfl), ((blk_cell Kgb1.out 1).trans rfl), ((blk_cell Kgb1.out 2).trans rfl), ((blk_cell Kgb1.out 3).trans rfl)⟩ (fun hHeld => ?_)
  clear hK K
  refine norm_ (a' := ?_) ?_ ?_
  rotate_left
  · show Act.put _ (some 75) _ = _
    simp only [Act.put, List.setIfInBounds_toArray, List.set_cons_zero, List.set_cons_succ, i64_w, i32_w]
    rfl
  refine pure_ (i := 4) (N := some 76) (v := ?_) (a' := ?_) #[true, true, true, true, true] rfl rfl (by kernel_rfl) (fun _ _ _ h => h) (Or.inl ⟨by rfl, ?_⟩) ?_ ?_
  rotate_left
  · intro w'
    go_simp
    with_reducible rfl
  rotate_left
  · simp only [Act.put, List.setIfInBounds_toArray, List.set_cons_zero, List.set_cons_succ, i64_w, i32_w]
    rfl
  refine done_ (by kernel_rfl) ?_
  clear hHeld
  go_upto_region 22 with (first
    | (fail))
  go_upto_region 24 with (first
    | (go_at_call 73; (with_reducible refine (laws_toBoxS.calls k A2_0 c2_0 l2_0 x2_0 w33 (Kd.C_below HR2.out HB.out) HC2.out HT2.out).mono ?_); rintro e w34 ⟨vt_, rfl, hr, hb⟩; obtain ⟨At_, ct_, rfl, hl_, hC_⟩ := Kd.R_reads hr; replace HB := Aside0.mk (below_then HB.out HB.out.size hb); replace Kgb0 := Aside0.mk (blk_below Kgb0.out hb); replace Kgb1 := Aside0.mk (blk_below Kgb1.out hb); replace Kgw := Aside0.mk (blk_below Kgw.out hb); replace Kgx0 := Aside0.mk (blk_below Kgx0.out hb); replace Kgx1 := Aside0.mk (blk_below Kgx1.out hb); replace Kgg := Aside0.mk (blk_below Kgg.out hb); replace Rw := Aside0.mk (Kd.R_below Rw.out hb); replace Rx0 := Aside0.mk (Kd.R_below Rx0.out hb); replace Rx1 := Aside0.mk (Kd.R_below Rx1.out hb); replace Rx2 := Aside0.mk (Kd.R_below Rx2.out hb); replace Rg := Aside0.mk (Kd.R_below Rg.out hb); have Zw34 := Aside0.mk hb.size; have HT_ := Aside0.mk hC_; have HL_ := Aside0.mk hl_; clear hr hb hl_ hC_)
    | (go_at_call 30; (with_reducible refine (laws_eqBoxS.calls k Ax2 cx2 x2_0 At_ ct_ x2_0 true w34 (Kd.R_reads' Rx2.out).2.2 (Kd.R_reads' Rx2.out).2.1 HT_.out HL_.out HE2.out).mono ?_); rintro e w35 ⟨rfl, hb⟩; replace HB := Aside0.mk (below_then HB.out HB.out.size hb); replace Kgb0 := Aside0.mk (blk_below Kgb0.out hb); replace Kgb1 := Aside0.mk (blk_below Kgb1.out hb); replace Kgw := Aside0.mk (blk_below Kgw.out hb); replace Kgx0 := Aside0.mk (blk_below Kgx0.out hb); replace Kgx1 := Aside0.mk (blk_below Kgx1.out hb); replace Kgg := Aside0.mk (blk_below Kgg.out hb); replace Rw := Aside0.mk (Kd.R_below Rw.out hb); replace Rx0 := Aside0.mk (Kd.R_below Rx0.out hb); replace Rx1 := Aside0.mk (Kd.R_below Rx1.out hb); replace Rx2 := Aside0.mk (Kd.R_below Rx2.out hb); replace Rg := Aside0.mk (Kd.R_below Rg.out hb); have Zw35 := Aside0.mk hb.size; clear hb HT_ HL_))
  have Zb0 := Aside0.mk QKgb0.out; have Zb1 := Aside0.mk QKgb1.out
  have z0_ := NZw.out; have z1_ := Zgw.out; have z2_ := ZLgw.out; have z3_ := Zw22.out; have z4_ := Zw23.out; have z5_ := Zgx0.out; have z6_ := ZLgx0.out; have z7_ := Zw24.out; have z8_ := Zw25.out; have z9_ := Zgx1.out; have z10_ := ZLgx1.out; have z11_ := Zw26.out; have z12_ := Zw27.out; have z13_ := Zw28.out; have z14_ := Zgg.out; have z15_ := ZLgg.out; have z16_ := Zw29.out; have z17_ := Zw30.out; have z18_ := Zw31.out; have z19_ := Zw32.out; have z20_ := Zw33.out; have z21_ := Zw34.out; have z22_ := Zw35.out; have z23_ := Zb0.out; have z24_ := Zb1.out
  have cgx0w35_0 : w35.cell? ⟨gx0, 0, none⟩ = some (.int .i64 x0_0) := (blk_cell Kgx0.out 0).trans rfl; have cgx0w35_1 : w35.cell? ⟨gx0, 1, none⟩ = some (.int .i64 x0_1) := (blk_cell Kgx0.out 1).trans rfl; have cgx0w35_2 : w35.cell? ⟨gx0, 2, none⟩ = some (.int .i64 x0_2) := (blk_cell Kgx0.out 2).trans rfl; have cgx0w35_3 : w35.cell? ⟨gx0, 3, none⟩ = some (.slice Ax0 x0_3.length cx0) := (blk_cell Kgx0.out 3).trans rfl
  go_upto_region 26 with (first
    | (go_at_call 31; (with_reducible refine (laws_markImage.calls k x0_0 x0_1 x0_2 (fun k_ => w21.heap.size ≤ k_ ∧ k_ < w22.heap.size) (.slice Ax0 x0_3.length cx0) x0_3 1 k0 y0 w w35 HB.out Rx0.out HM0.out).mono ?_); rintro e w36 ⟨rfl, hr, hb, hK⟩; replace Kgb0 := Aside0.mk ((hK.2 gb0 (blk_lt Kgb0.out) (by have b_ := blk_lt Kgb0.out; rintro ⟨h1_, h2_⟩; omega)).trans Kgb0.out); replace Kgb1 := Aside0.mk ((hK.2 gb1 (blk_lt Kgb1.out) (by have b_ := blk_lt Kgb1.out; rintro ⟨h1_, h2_⟩; omega)).trans Kgb1.out); replace Kgw := Aside0.mk ((hK.2 gw (blk_lt Kgw.out) (by have b_ := blk_lt Kgw.out; rintro ⟨h1_, h2_⟩; omega)).trans Kgw.out); replace Kgx0 := Aside0.mk ((hK.2 gx0 (blk_lt Kgx0.out) (by have b_ := blk_lt Kgx0.out; rintro ⟨h1_, h2_⟩; omega)).trans Kgx0.out); replace Kgx1 := Aside0.mk ((hK.2 gx1 (blk_lt Kgx1.out) (by have b_ := blk_lt Kgx1.out; rintro ⟨h1_, h2_⟩; omega)).trans Kgx1.out); replace Kgg := Aside0.mk ((hK.2 gg (blk_lt Kgg.out) (by have b_ := blk_lt Kgg.out; rintro ⟨h1_, h2_⟩; omega)).trans Kgg.out); replace Rw := Aside0.mk (Kd.R_kept Rw.out hK (by rintro k_ ⟨h1_, h2_⟩ ⟨h3_, h4_⟩; omega)); replace Rx1 := Aside0.mk (Kd.R_kept Rx1.out hK (by rintro k_ ⟨h1_, h2_⟩ ⟨h3_, h4_⟩; omega)); replace Rx2 := Aside0.mk (Kd.R_kept Rx2.out hK (by rintro k_ ⟨h1_, h2_⟩ ⟨h3_, h4_⟩; omega)); replace Rg := Aside0.mk (Kd.R_kept Rg.out hK (by rintro k_ ⟨h1_, h2_⟩ ⟨h3_, h4_⟩; omega)); replace HB := Aside0.mk hb; replace Rx0 := Aside0.mk hr; have Zw36 := Aside0.mk hK.1; clear hr hb hK))
  try clear cgx0w35_0 cgx0w35_1 cgx0w35_2 cgx0w35_3
  clear z0_ z1_ z2_ z3_ z4_ z5_ z6_ z7_ z8_ z9_ z10_ z11_ z12_ z13_ z14_ z15_ z16_ z17_ z18_ z19_ z20_ z21_ z22_ z23_ z24_
  have z0_ := NZw.out; have z1_ := Zgw.out; have z2_ := ZLgw.out; have z3_ := Zw22.out; have z4_ := Zw23.out; have z5_ := Zgx0.out; have z6_ := ZLgx0.out; have z7_ := Zw24.out; have z8_ := Zw25.out; have z9_ := Zgx1.out; have z10_ := ZLgx1.out; have z11_ := Zw26.out; have z12_ := Zw27.out; have z13_ := Zw28.out; have z14_ := Zgg.out; have z15_ := ZLgg.out; have z16_ := Zw29.out; have z17_ := Zw30.out; have z18_ := Zw31.out; have z19_ := Zw32.out; have z20_ := Zw33.out; have z21_ := Zw34.out; have z22_ := Zw35.out; have z23_ := Zb0.out; have z24_ := Zb1.out; have z25_ := Zw36.out
  have cgx1w36_0 : w36.cell? ⟨gx1, 0, none⟩ = some (.int .i64 x1_0) := (blk_cell Kgx1.out 0).trans rfl; have cgx1w36_1 : w36.cell? ⟨gx1, 1, none⟩ = some (.int .i64 x1_1) := (blk_cell Kgx1.out 1).trans rfl; have cgx1w36_2 : w36.cell? ⟨gx1, 2, none⟩ = some (.int .i64 x1_2) := (blk_cell Kgx1.out 2).trans rfl; have cgx1w36_3 : w36.cell? ⟨gx1, 3, none⟩ = some (.slice Ax1 x1_3.length cx1) := (blk_cell Kgx1.out 3).trans rfl
  go_upto_region 27 with (first
    | (go_at_call 31; (with_reducible refine (laws_markImage.calls k x1_0 x1_1 x1_2 (fun k_ => w23.heap.size ≤ k_ ∧ k_ < w24.heap.size) (.slice Ax1 x1_3.length cx1) x1_3 k0 k1 y1 w w36 HB.out Rx1.out HM1.out).mono ?_); rintro e w37 ⟨rfl, hr, hb, hK⟩; replace Kgb0 := Aside0.mk ((hK.2 gb0 (blk_lt Kgb0.out) (by have b_ := blk_lt Kgb0.out; rintro ⟨h1_, h2_⟩; omega)).trans Kgb0.out); replace Kgb1 := Aside0.mk ((hK.2 gb1 (blk_lt Kgb1.out) (by have b_ := blk_lt Kgb1.out; rintro ⟨h1_, h2_⟩; omega)).trans Kgb1.out); replace Kgw := Aside0.mk ((hK.2 gw (blk_lt Kgw.out) (by have b_ := blk_lt Kgw.out; rintro ⟨h1_, h2_⟩; omega)).trans Kgw.out); replace Kgx0 := Aside0.mk ((hK.2 gx0 (blk_lt Kgx0.out) (by have b_ := blk_lt Kgx0.out; rintro ⟨h1_, h2_⟩; omega)).trans Kgx0.out); replace Kgx1 := Aside0.mk ((hK.2 gx1 (blk_lt Kgx1.out) (by have b_ := blk_lt Kgx1.out; rintro ⟨h1_, h2_⟩; omega)).trans Kgx1.out); replace Kgg := Aside0.mk ((hK.2 gg (blk_lt Kgg.out) (by have b_ := blk_lt Kgg.out; rintro ⟨h1_, h2_⟩; omega)).trans Kgg.out); replace Rw := Aside0.mk (Kd.R_kept Rw.out hK (by rintro k_ ⟨h1_, h2_⟩ ⟨h3_, h4_⟩; omega)); replace Rx2 := Aside0.mk (Kd.R_kept Rx2.out hK (by rintro k_ ⟨h1_, h2_⟩ ⟨h3_, h4_⟩; omega)); replace Rg := Aside0.mk (Kd.R_kept Rg.out hK (by rintro k_ ⟨h1_, h2_⟩ ⟨h3_, h4_⟩; omega)); replace HB := Aside0.mk hb; replace Rx1 := Aside0.mk hr; have Zw37 := Aside0.mk hK.1; clear hr hb hK))
  try clear cgx1w36_0 cgx1w36_1 cgx1w36_2 cgx1w36_3
  clear z0_ z1_ z2_ z3_ z4_ z5_ z6_ z7_ z8_ z9_ z10_ z11_ z12_ z13_ z14_ z15_ z16_ z17_ z18_ z19_ z20_ z21_ z22_ z23_ z24_ z25_
  have z0_ := NZw.out; have z1_ := Zgw.out; have z2_ := ZLgw.out; have z3_ := Zw22.out; have z4_ := Zw23.out; have z5_ := Zgx0.out; have z6_ := ZLgx0.out; have z7_ := Zw24.out; have z8_ := Zw25.out; have z9_ := Zgx1.out; have z10_ := ZLgx1.out; have z11_ := Zw26.out; have z12_ := Zw27.out; have z13_ := Zw28.out; have z14_ := Zgg.out; have z15_ := ZLgg.out; have z16_ := Zw29.out; have z17_ := Zw30.out; have z18_ := Zw31.out; have z19_ := Zw32.out; have z20_ := Zw33.out; have z21_ := Zw34.out; have z22_ := Zw35.out; have z23_ := Zb0.out; have z24_ := Zb1.out; have z25_ := Zw36.out; have z26_ := Zw37.out
  go_upto_region 28 with (first
    | (go_at_call 32; (with_reducible refine (laws_markBoxS.calls k (fun k_ => w25.heap.size ≤ k_ ∧ k_ < w26.heap.size) (.slice Ax2 x2_0.length cx2) x2_0 k1 k2 y2 w w37 HB.out Rx2.out HM2.out).mono ?_); rintro e w38 ⟨rfl, hr, hb, hK⟩; replace Kgb0 := Aside0.mk ((hK.2 gb0 (blk_lt Kgb0.out) (by have b_ := blk_lt Kgb0.out; rintro ⟨h1_, h2_⟩; omega)).trans Kgb0.out); replace Kgb1 := Aside0.mk ((hK.2 gb1 (blk_lt Kgb1.out) (by have b_ := blk_lt Kgb1.out; rintro ⟨h1_, h2_⟩; omega)).trans Kgb1.out); replace Kgw := Aside0.mk ((hK.2 gw (blk_lt Kgw.out) (by have b_ := blk_lt Kgw.out; rintro ⟨h1_, h2_⟩; omega)).trans Kgw.out); replace Kgx0 := Aside0.mk ((hK.2 gx0 (blk_lt Kgx0.out) (by have b_ := blk_lt Kgx0.out; rintro ⟨h1_, h2_⟩; omega)).trans Kgx0.out); replace Kgx1 := Aside0.mk ((hK.2 gx1 (blk_lt Kgx1.out) (by have b_ := blk_lt Kgx1.out; rintro ⟨h1_, h2_⟩; omega)).trans Kgx1.out); replace Kgg := Aside0.mk ((hK.2 gg (blk_lt Kgg.out) (by have b_ := blk_lt Kgg.out; rintro ⟨h1_, h2_⟩; omega)).trans Kgg.out); replace Rw := Aside0.mk (Kd.R_kept Rw.out hK (by rintro k_ ⟨h1_, h2_⟩ ⟨h3_, h4_⟩; omega)); replace Rg := Aside0.mk (Kd.R_kept Rg.out hK (by rintro k_ ⟨h1_, h2_⟩ ⟨h3_, h4_⟩; omega)); replace HB := Aside0.mk hb; replace Rx2 := Aside0.mk hr; have Zw38 := Aside0.mk hK.1; clear hr hb hK))
  clear z0_ z1_ z2_ z3_ z4_ z5_ z6_ z7_ z8_ z9_ z10_ z11_ z12_ z13_ z14_ z15_ z16_ z17_ z18_ z19_ z20_ z21_ z22_ z23_ z24_ z25_ z26_
  have cggw38_0 : w38.cell? ⟨gg, 0, none⟩ = some (.int .i64 v0) := (blk_cell Kgg.out 0).trans rfl; have cggw38_1 : w38.cell? ⟨gg, 1, none⟩ = some (.int .i64 v1) := (blk_cell Kgg.out 1).trans rfl; have cggw38_2 : w38.cell? ⟨gg, 2, none⟩ = some (.int .i64 v2) := (blk_cell Kgg.out 2).trans rfl; have cggw38_3 : w38.cell? ⟨gg, 3, none⟩ = some (.slice Ag v3.length cg) := (blk_cell Kgg.out 3).trans rfl
  have cgww38_0 : w38.cell? ⟨gw, 0, none⟩ = some (.int .i64 v0) := (blk_cell Kgw.out 0).trans rfl; have cgww38_1 : w38.cell? ⟨gw, 1, none⟩ = some (.int .i64 v1) := (blk_cell Kgw.out 1).trans rfl; have cgww38_2 : w38.cell? ⟨gw, 2, none⟩ = some (.int .i64 v2) := (blk_cell Kgw.out 2).trans rfl; have cgww38_3 : w38.cell? ⟨gw, 3, none⟩ = some (.slice Aw v3.length cw) := (blk_cell Kgw.out 3).trans rfl
  go_upto_region 30 with (first
    | (go_at_call 24; (with_reducible refine (laws_eqImage.calls k v0 v1 v2 Ag cg v3 v0 v1 v2 Aw cw v3 true w38 (Kd.R_reads' Rg.out).2.2 (Kd.R_reads' Rg.out).2.1 (Kd.R_reads' Rw.out).2.2 (Kd.R_reads' Rw.out).2.1 HEV.out rfl).mono ?_); rintro e w39 ⟨rfl, hb⟩; replace HB := Aside0.mk (below_then HB.out HB.out.size hb); replace Kgb0 := Aside0.mk (blk_below Kgb0.out hb); replace Kgb1 := Aside0.mk (blk_below Kgb1.out hb); replace Kgw := Aside0.mk (blk_below Kgw.out hb); replace Kgx0 := Aside0.mk (blk_below Kgx0.out hb); replace Kgx1 := Aside0.mk (blk_below Kgx1.out hb); replace Kgg := Aside0.mk (blk_below Kgg.out hb); replace Rw := Aside0.mk (Kd.R_below Rw.out hb); replace Rg := Aside0.mk (Kd.R_below Rg.out hb); have Zw39 := Aside0.mk hb.size; clear hb))
  try clear cggw38_0 cggw38_1 cggw38_2 cggw38_3 cgww38_0 cgww38_1 cgww38_2 cgww38_3
  have z0_ := NZw.out; have z1_ := Zgw.out; have z2_ := ZLgw.out; have z3_ := Zw22.out; have z4_ := Zw23.out; have z5_ := Zgx0.out; have z6_ := ZLgx0.out; have z7_ := Zw24.out; have z8_ := Zw25.out; have z9_ := Zgx1.out; have z10_ := ZLgx1.out; have z11_ := Zw26.out; have z12_ := Zw27.out; have z13_ := Zw28.out; have z14_ := Zgg.out; have z15_ := ZLgg.out; have z16_ := Zw29.out; have z17_ := Zw30.out; have z18_ := Zw31.out; have z19_ := Zw32.out; have z20_ := Zw33.out; have z21_ := Zw34.out; have z22_ := Zw35.out; have z23_ := Zb0.out; have z24_ := Zb1.out; have z25_ := Zw36.out; have z26_ := Zw37.out; have z27_ := Zw38.out; have z28_ := Zw39.out
  have cggw39_0 : w39.cell? ⟨gg, 0, none⟩ = some (.int .i64 v0) := (blk_cell Kgg.out 0).trans rfl; have cggw39_1 : w39.cell? ⟨gg, 1, none⟩ = some (.int .i64 v1) := (blk_cell Kgg.out 1).trans rfl; have cggw39_2 : w39.cell? ⟨gg, 2, none⟩ = some (.int .i64 v2) := (blk_cell Kgg.out 2).trans rfl; have cggw39_3 : w39.cell? ⟨gg, 3, none⟩ = some (.slice Ag v3.length cg) := (blk_cell Kgg.out 3).trans rfl
  go_upto_region 32 with (first
    | (go_at_call 31; (with_reducible refine (laws_markImage.calls k v0 v1 v2 (fun k_ => w26.heap.size ≤ k_ ∧ k_ < w27.heap.size) (.slice Ag v3.length cg) v3 1 m u w w39 HB.out Rg.out HMR.out).mono ?_); rintro e w40 ⟨rfl, hr, hb, hK⟩; replace Kgb0 := Aside0.mk ((hK.2 gb0 (blk_lt Kgb0.out) (by have b_ := blk_lt Kgb0.out; rintro ⟨h1_, h2_⟩; omega)).trans Kgb0.out); replace Kgb1 := Aside0.mk ((hK.2 gb1 (blk_lt Kgb1.out) (by have b_ := blk_lt Kgb1.out; rintro ⟨h1_, h2_⟩; omega)).trans Kgb1.out); replace Kgw := Aside0.mk ((hK.2 gw (blk_lt Kgw.out) (by have b_ := blk_lt Kgw.out; rintro ⟨h1_, h2_⟩; omega)).trans Kgw.out); replace Kgx0 := Aside0.mk ((hK.2 gx0 (blk_lt Kgx0.out) (by have b_ := blk_lt Kgx0.out; rintro ⟨h1_, h2_⟩; omega)).trans Kgx0.out); replace Kgx1 := Aside0.mk ((hK.2 gx1 (blk_lt Kgx1.out) (by have b_ := blk_lt Kgx1.out; rintro ⟨h1_, h2_⟩; omega)).trans Kgx1.out); replace Kgg := Aside0.mk ((hK.2 gg (blk_lt Kgg.out) (by have b_ := blk_lt Kgg.out; rintro ⟨h1_, h2_⟩; omega)).trans Kgg.out); replace Rw := Aside0.mk (Kd.R_kept Rw.out hK (by rintro k_ ⟨h1_, h2_⟩ ⟨h3_, h4_⟩; omega)); replace HB := Aside0.mk hb; replace Rg := Aside0.mk hr; have Zw40 := Aside0.mk hK.1; clear hr hb hK))
  try clear cggw39_0 cggw39_1 cggw39_2 cggw39_3
  clear z0_ z1_ z2_ z3_ z4_ z5_ z6_ z7_ z8_ z9_ z10_ z11_ z12_ z13_ z14_ z15_ z16_ z17_ z18_ z19_ z20_ z21_ z22_ z23_ z24_ z25_ z26_ z27_ z28_
  have eu := Aside0.mk (Kd.R_reads' Rg.out).1
  replace Kgg := Aside0.mk (show w40.heap[gg]? = some (.cells #[.int .i64 v0, .int .i64 v1, .int .i64 v2, .slice Ag u.length cg] 27 (0, 0)) from by rw [← eu.out]; exact Kgg.out)
  replace Rg := Aside0.mk (show Kd.R (Kd.int .i64) 3 w40 w.heap.size (fun k_ => 0 ≤ k_ ∧ k_ < w40.heap.size) (.slice Ag u.length cg) u from by rw [← eu.out]; exact Kd.R_mono (Kd.R_bound Rg.out) (fun k_ hk_ => ⟨Nat.zero_le _, hk_.2.2.1⟩))
  clear eu
  have cggw40_0 : w40.cell? ⟨gg, 0, none⟩ = some (.int .i64 v0) := (blk_cell Kgg.out 0).trans rfl; have cggw40_1 : w40.cell? ⟨gg, 1, none⟩ = some (.int .i64 v1) := (blk_cell Kgg.out 1).trans rfl; have cggw40_2 : w40.cell? ⟨gg, 2, none⟩ = some (.int .i64 v2) := (blk_cell Kgg.out 2).trans rfl; have cggw40_3 : w40.cell? ⟨gg, 3, none⟩ = some (.slice Ag u.length cg) := (blk_cell Kgg.out 3).trans rfl
  go_upto_region 38 with (first
    | (go_at_call 59; (with_reducible refine (laws_heldImage.calls k v0 v1 v2 Ag cg u 1 m w40 (Kd.R_reads' Rg.out).2.2 (Kd.R_reads' Rg.out).2.1 HHR.out).mono ?_); rintro e w41 ⟨rfl, hb⟩; replace HB := Aside0.mk (below_then HB.out HB.out.size hb); replace Kgb0 := Aside0.mk (blk_below Kgb0.out hb); replace Kgb1 := Aside0.mk (blk_below Kgb1.out hb); replace Kgw := Aside0.mk (blk_below Kgw.out hb); replace Kgg := Aside0.mk (blk_below Kgg.out hb); replace Rw := Aside0.mk (Kd.R_below Rw.out hb); replace Rg := Aside0.mk (Kd.R_below Rg.out hb); have Zw41 := Aside0.mk hb.size; clear hb))
  try clear cggw40_0 cggw40_1 cggw40_2 cggw40_3
  have HBSh := Aside0.mk HB.out.size
  have HZh := Aside0.mk (Nat.le_refl w41.heap.size)
  replace HB := Aside0.mk (below_drew HB.out)
  replace Kgb0 := Aside0.mk (blk_below Kgb0.out (below_drew (Below.refl _ _)))
  replace Kgb1 := Aside0.mk (blk_below Kgb1.out (below_drew (Below.refl _ _)))
  replace Kgw := Aside0.mk (blk_below Kgw.out (below_drew (Below.refl _ _)))
  replace Kgg := Aside0.mk (blk_below Kgg.out (below_drew (Below.refl _ _)))
  replace Rw := Aside0.mk (Kd.R_drew Rw.out)
  replace Rg := Aside0.mk (Kd.R_drew Rg.out)
  replace HZh := Aside0.mk (show w41.heap.size ≤ w41.drew.heap.size from HZh.out)
  have QKgb0 := Aside0.mk (show gb0 < w41.heap.size from blk_lt Kgb0.out)
  have QKgb1 := Aside0.mk (show gb1 < w41.heap.size from blk_lt Kgb1.out)
  have QKgw := Aside0.mk (show gw < w41.heap.size from blk_lt Kgw.out)
  have QKgg := Aside0.mk (show gg < w41.heap.size from blk_lt Kgg.out)
  refine start_ (n := 13) (S := fun w' => w'.cell? ⟨gb0, 0, none⟩ = some (.int .i64 a0_0) ∧ w'.cell? ⟨gb0, 1, none⟩ = some (.int .i64 a0_1) ∧ w'.cell? ⟨gb0, 2, none⟩ = some (.int .i64 a0_2) ∧ w'.cell? ⟨gb0, 3, none⟩ = some (.slice A0_3 l0_3.length c0_3) ∧ w'.cell? ⟨gb1, 0, none⟩ = some (.int .i64 a1_0) ∧ w'.cell? ⟨gb1, 1, none⟩ = some (.int .i64 a1_1) ∧ w'.cell? ⟨gb1, 2, none⟩ = some (.int .i64 a1_2) ∧ w'.cell? ⟨gb1, 3, none⟩ = some (.slice A1_3 l1_3.length c1_3)) (ds := []) #[false, false, false, false, false, false, false, false, false, false, false, false, false] (by kernel_rfl) rfl rfl ⟨((blk_cell Kgb0.out 0).trans rfl), ((blk_cell Kgb0.out 1).trans rfl), ((blk_cell Kgb0.out 2).trans rfl), ((blk_cell Kgb0.out 3).trans rfl), ((blk_cell Kgb1.out 0).trans rfl), ((blk_cell Kgb1.out 1).trans rfl), ((blk_cell Kgb1.out 2).trans rfl), ((blk_cell Kgb1.out 3).trans rfl)⟩ (fun hHeld => ?_)
  refine pure_ (i := 4) (N := some 120) (v := ?_) (a' := ?_) #[false, false, false, false, true, false, false, false, false, false, false, false, false] rfl rfl (by kernel_rfl) (fun _ _ _ h => h) (Or.inl ⟨by rfl, ?_⟩) ?_ ?_
  rotate_left
  · intro w'
    go_simp
    with_reducible rfl
  rotate_left
  · simp only [Act.put, List.setIfInBounds_toArray, List.set_cons_zero, List.set_cons_succ, i64_w, i32_w]
    rfl
  refine take_ (i := 0) (N := some 116) (v := ?_) (a' := ?_) #[true, false, false, false, true, false, false, false, false, false, false, false, false] rfl rfl (by kernel_rfl) (fun _ _ _ h => h) (Or.inl ⟨by rfl, ?_⟩) hHeld ?_ ?_
  rotate_left
  · rintro w' ⟨s0, s1, s2, s3, s4, s5, s6, s7⟩
    go_simp
    with_reducible rfl
  rotate_left
  · simp only [Act.put, List.setIfInBounds_toArray, List.set_cons_zero, List.set_cons_succ, i64_w, i32_w]
    rfl
  refine take_ (i := 2) (N := some 118) (v := ?_) (a' := ?_) #[true, false, true, false, true, false, false, false, false, false, false, false, false] rfl rfl (by kernel_rfl) (fun _ _ _ h => h) (Or.inl ⟨by rfl, ?_⟩) hHeld ?_ ?_
  rotate_left
  · rintro w' ⟨s0, s1, s2, s3, s4, s5, s6, s7⟩
    go_simp
    with_reducible rfl
  rotate_left
  · simp only [Act.put, List.setIfInBounds_toArray, List.set_cons_zero, List.set_cons_succ, i64_w, i32_w]
    rfl
  refine join_ (σ := Value × Value × Value × Value × Nat) 2 #[true, true, true, true, true, true, true, true, true, true, true, false, false] (fun s_ => [(117, .agg #[.int .i64 x0_0, .int .i64 x0_1, .int .i64 x0_2, s_.1]), (119, .agg #[.int .i64 x1_0, .int .i64 x1_1, .int .i64 x1_2, s_.2.1]), (121, s_.2.2.1), (122, .tuple #[.agg #[.int .i64 v0, .int .i64 v1, .int .i64 v2, s_.2.2.2.1], .bool vok]), (115, .tuple #[.agg #[.int .i64 v0, .int .i64 v1, .int .i64 v2, s_.2.2.2.1], .bool vok]), (123, .agg #[.int .i64 v0, .int .i64 v1, .int .i64 v2, s_.2.2.2.1]), (124, .bool vok), (18, .pointer (some ⟨s_.2.2.2.2, 0, none⟩))]) (fun s_ w' => Kd.R (Kd.int .i64) 3 w' w.heap.size (fun k_ => w41.heap.size ≤ k_ ∧ k_ < w'.heap.size) (s_.2.2.2.1) v3 ∧ w'.heap[s_.2.2.2.2]? = some (.cells #[.int .i64 0, .int .i64 0, .int .i64 0, .slice none 0 0] 27 (0, 0)) ∧ w41.heap.size ≤ s_.2.2.2.2 ∧ w'.heap[gb0]? = some (.cells #[.int .i64 a0_0, .int .i64 a0_1, .int .i64 a0_2, .slice A0_3 l0_3.length c0_3] 24 (0, 0)) ∧ w'.heap[gb1]? = some (.cells #[.int .i64 a1_0, .int .i64 a1_1, .int .i64 a1_2, .slice A1_3 l1_3.length c1_3] 24 (0, 0)) ∧ w'.heap[gw]? = some (.cells #[.int .i64 v0, .int .i64 v1, .int .i64 v2, .slice Aw v3.length cw] 27 (0, 0)) ∧ w'.heap[gg]? = some (.cells #[.int .i64 v0, .int .i64 v1, .int .i64 v2, .slice Ag u.length cg] 27 (0, 0)) ∧ Kd.R (Kd.int .i64) 3 w' w.heap.size (fun k_ => wz2.heap.size ≤ k_ ∧ k_ < w21.heap.size) (.slice Aw v3.length cw) v3 ∧ Kd.R (Kd.int .i64) 3 w' w.heap.size (fun k_ => 0 ≤ k_ ∧ k_ < w40.heap.size) (.slice Ag u.length cg) u ∧ Below w.heap.size w w' ∧ w41.heap.size ≤ w'.heap.size) ?_ ?_
  rotate_left
  · intro hCont
    refine two_ (i := 1) (j := 10) (Ni := some 117) (Nj := some 18) #[true, true, true, false, true, false, false, false, false, false, false, false, false] #[true, false, true, false, true, false, false, false, false, false, true, false, false] rfl rfl rfl rfl (by kernel_rfl) (by decide) (by decide) (fun K hK => ?_) (fun K hK => ?_)
    · skip
      refine goes_ Try.func22 (by kernel_rfl) rfl #[.agg #[.int .i64 a0_0, .int .i64 a0_1, .int .i64 a0_2, .slice A0_3 l0_3.length c0_3]] (by rfl) rfl rfl (by simp only [List.map_toArray, List.map_cons, List.map_nil]; rfl) ?_
      with_reducible refine (laws_toImage.calls k a0_0 a0_1 a0_2 A0_3 c0_3 l0_3 x0_0 x0_1 x0_2 x0_3 _ (Kd.C_below HR0.out HB.out) HC0.out HT0.out).mono ?_
      rintro e w43 ⟨vt_, rfl, hr_, hb_⟩
      refine ⟨_, rfl, ?_⟩
      replace HB := Aside0.mk (below_then HB.out HB.out.size hb_)
      replace Kgb0 := Aside0.mk (blk_below Kgb0.out hb_)
      replace Kgb1 := Aside0.mk (blk_below Kgb1.out hb_)
      replace Kgw := Aside0.mk (blk_below Kgw.out hb_)
      replace Kgg := Aside0.mk (blk_below Kgg.out hb_)
      replace Rw := Aside0.mk (Kd.R_below Rw.out hb_)
      replace Rg := Aside0.mk (Kd.R_below Rg.out hb_)
      replace HZh := Aside0.mk (Nat.le_trans HZh.out hb_.size)
      obtain ⟨At0, ct0, rfl, hl_, hC_⟩ := Kd.R_reads hr_
      have HT_0 := Aside0.mk hC_
      have HL_0 := Aside0.mk hl_
      clear hr_ hb_ hl_ hC_
      refine hK.out _ _ ⟨((blk_cell Kgb0.out 0).trans rfl), ((blk_cell Kgb0.out 1).trans rfl), ((blk_cell Kgb0.out 2).trans rfl), ((blk_cell Kgb0.out 3).trans rfl), ((blk_cell Kgb1.out 0).trans rfl), ((blk_cell Kgb1.out 1).trans rfl), ((blk_cell Kgb1.out 2).trans rfl), ((blk_cell Kgb1.out 3).trans rfl)⟩ (fun hHeld => ?_)
      clear hK K
      refine norm_ (a' := ?_) ?_ ?_
      rotate_left
      · show Act.put _ (some 117) _ = _
        simp only [Act.put, List.setIfInBounds_toArray, List.set_cons_zero, List.set_cons_succ, i64_w, i32_w]
        rfl
      refine two_ (i := 3) (j := 10) (Ni := some 119) (Nj := some 18) #[true, true, true, true, true, false, false, false, false, false, false, false, false] #[true, true, true, false, true, false, false, false, false, false, true, false, false] rfl rfl rfl rfl (by kernel_rfl) (by decide) (by decide) (fun K hK => ?_) (fun K hK => ?_)
      · skip
        refine goes_ Try.func22 (by kernel_rfl) rfl #[.agg #[.int .i64 a1_0, .int .i64 a1_1, .int .i64 a1_2, .slice A1_3 l1_3.length c1_3]] (by rfl) rfl rfl (by simp only [List.map_toArray, List.map_cons, List.map_nil]; rfl) ?_
        with_reducible refine (laws_toImage.calls k a1_0 a1_1 a1_2 A1_3 c1_3 l1_3 x1_0 x1_1 x1_2 x1_3 _ (Kd.C_below HR1.out HB.out) HC1.out HT1.out).mono ?_
        rintro e w44 ⟨vt_, rfl, hr_, hb_⟩
        refine ⟨_, rfl, ?_⟩
        replace HB := Aside0.mk (below_then HB.out HB.out.size hb_)
        replace Kgb0 := Aside0.mk (blk_below Kgb0.out hb_)
        replace Kgb1 := Aside0.mk (blk_below Kgb1.out hb_)
        replace Kgw := Aside0.mk (blk_below Kgw.out hb_)
        replace Kgg := Aside0.mk (blk_below Kgg.out hb_)
        replace Rw := Aside0.mk (Kd.R_below Rw.out hb_)
        replace Rg := Aside0.mk (Kd.R_below Rg.out hb_)
        replace HT_0 := Aside0.mk (Kd.C_below HT_0.out hb_)
        replace HZh := Aside0.mk (Nat.le_trans HZh.out hb_.size)
        obtain ⟨At1, ct1, rfl, hl_, hC_⟩ := Kd.R_reads hr_
        have HT_1 := Aside0.mk hC_
        have HL_1 := Aside0.mk hl_
        clear hr_ hb_ hl_ hC_
        refine hK.out _ _ ⟨((blk_cell Kgb0.out 0).trans rfl), ((blk_cell Kgb0.out 1).trans rfl), ((blk_cell Kgb0.out 2).trans rfl), ((blk_cell Kgb0.out 3).trans rfl), ((blk_cell Kgb1.out 0).trans rfl), ((blk_cell Kgb1.out 1).trans rfl), ((blk_cell Kgb1.out 2).trans rfl), ((blk_cell Kgb1.out 3).trans rfl)⟩ (fun hHeld => ?_)
        clear hK K
        refine norm_ (a' := ?_) ?_ ?_
        rotate_left
        · show Act.put _ (some 119) _ = _
          simp only [Act.put, List.setIfInBounds_toArray, List.set_cons_zero, List.set_cons_succ, i64_w, i32_w]
          rfl
        refine two_ (i := 5) (j := 10) (Ni := some 121) (Nj := some 18) #[true, true, true, true, true, true, false, false, false, false, false, false, false] #[true, true, true, true, true, false, false, false, false, false, true, false, false] rfl rfl rfl rfl (by kernel_rfl) (by decide) (by decide) (fun K hK => ?_) (fun K hK => ?_)
        · skip
          refine goes_ Try.func73 (by kernel_rfl) rfl #[.slice A2_0 l2_0.length c2_0] (by rfl) rfl rfl (by simp only [List.map_toArray, List.map_cons, List.map_nil]; rfl) ?_
          with_reducible refine (laws_toBoxS.calls k A2_0 c2_0 l2_0 x2_0 _ (Kd.C_below HR2.out HB.out) HC2.out HT2.out).mono ?_
          rintro e w45 ⟨vt_, rfl, hr_, hb_⟩
          refine ⟨_, rfl, ?_⟩
          replace HB := Aside0.mk (below_then HB.out HB.out.size hb_)
          replace Kgb0 := Aside0.mk (blk_below Kgb0.out hb_)
          replace Kgb1 := Aside0.mk (blk_below Kgb1.out hb_)
          replace Kgw := Aside0.mk (blk_below Kgw.out hb_)
          replace Kgg := Aside0.mk (blk_below Kgg.out hb_)
          replace Rw := Aside0.mk (Kd.R_below Rw.out hb_)
          replace Rg := Aside0.mk (Kd.R_below Rg.out hb_)
          replace HT_0 := Aside0.mk (Kd.C_below HT_0.out hb_)
          replace HT_1 := Aside0.mk (Kd.C_below HT_1.out hb_)
          replace HZh := Aside0.mk (Nat.le_trans HZh.out hb_.size)
          obtain ⟨At2, ct2, rfl, hl_, hC_⟩ := Kd.R_reads hr_
          have HT_2 := Aside0.mk hC_
          have HL_2 := Aside0.mk hl_
          clear hr_ hb_ hl_ hC_
          refine hK.out _ _ ⟨((blk_cell Kgb0.out 0).trans rfl), ((blk_cell Kgb0.out 1).trans rfl), ((blk_cell Kgb0.out 2).trans rfl), ((blk_cell Kgb0.out 3).trans rfl), ((blk_cell Kgb1.out 0).trans rfl), ((blk_cell Kgb1.out 1).trans rfl), ((blk_cell Kgb1.out 2).trans rfl), ((blk_cell Kgb1.out 3).trans rfl)⟩ (fun hHeld => ?_)
          clear hK K
          refine norm_ (a' := ?_) ?_ ?_
          rotate_left
          · show Act.put _ (some 121) _ = _
            simp only [Act.put, List.setIfInBounds_toArray, List.set_cons_zero, List.set_cons_succ, i64_w, i32_w]
            rfl
          refine two_ (i := 6) (j := 10) (Ni := some 122) (Nj := some 18) #[true, true, true, true, true, true, true, false, false, false, false, false, false] #[true, true, true, true, true, true, false, false, false, false, true, false, false] rfl rfl rfl rfl (by kernel_rfl) (by decide) (by decide) (fun K hK => ?_) (fun K hK => ?_)
          · skip
            refine goes_ Try.func74 (by kernel_rfl) rfl #[.agg #[.int .i64 x0_0, .int .i64 x0_1, .int .i64 x0_2, .slice At0 x0_3.length ct0], .agg #[.int .i64 x1_0, .int .i64 x1_1, .int .i64 x1_2, .slice At1 x1_3.length ct1], .slice At2 x2_0.length ct2] (by rfl) rfl rfl (by simp only [List.map_toArray, List.map_cons, List.map_nil]; rfl) ?_
            with_reducible refine (impl_PatchImage.calls k x0_0 x0_1 x0_2 At0 ct0 x0_3 x1_0 x1_1 x1_2 At1 ct1 x1_3 At2 ct2 x2_0 v0 v1 v2 v3 vok _ HT_0.out HL_0.out HT_1.out HL_1.out HT_2.out HL_2.out HIM.out).mono ?_
            rintro e w46 ⟨vw_, rfl, hr_, hb_⟩
            refine ⟨_, rfl, ?_⟩
            have HZp_ := HZh
            have HBp_ := HB
            replace HB := Aside0.mk (below_then HB.out HB.out.size hb_)
            replace Kgb0 := Aside0.mk (blk_below Kgb0.out hb_)
            replace Kgb1 := Aside0.mk (blk_below Kgb1.out hb_)
            replace Kgw := Aside0.mk (blk_below Kgw.out hb_)
            replace Kgg := Aside0.mk (blk_below Kgg.out hb_)
            replace Rw := Aside0.mk (Kd.R_below Rw.out hb_)
            replace Rg := Aside0.mk (Kd.R_below Rg.out hb_)
            replace HT_0 := Aside0.mk (Kd.C_below HT_0.out hb_)
            replace HT_1 := Aside0.mk (Kd.C_below HT_1.out hb_)
            replace HT_2 := Aside0.mk (Kd.C_below HT_2.out hb_)
            replace HZh := Aside0.mk (Nat.le_trans HZh.out hb_.size)
            have Rh := Aside0.mk (Kd.R_lower (Kd.R_mono (Kd.R_bound hr_) (fun k_ hk_ => (⟨Nat.le_trans HZp_.out hk_.2.1, hk_.2.2.1⟩ : w41.heap.size ≤ k_ ∧ k_ < w46.heap.size))) HBp_.out.size)
            clear hr_ hb_ HZp_ HBp_
            refine hK.out _ _ ⟨((blk_cell Kgb0.out 0).trans rfl), ((blk_cell Kgb0.out 1).trans rfl), ((blk_cell Kgb0.out 2).trans rfl), ((blk_cell Kgb0.out 3).trans rfl), ((blk_cell Kgb1.out 0).trans rfl), ((blk_cell Kgb1.out 1).trans rfl), ((blk_cell Kgb1.out 2).trans rfl), ((blk_cell Kgb1.out 3).trans rfl)⟩ (fun hHeld => ?_)
            clear hK K
            refine norm_ (a' := ?_) ?_ ?_
            rotate_left
            · show Act.put _ (some 122) _ = _
              simp only [Act.put, List.setIfInBounds_toArray, List.set_cons_zero, List.set_cons_succ, i64_w, i32_w]
              rfl
            refine pure_ (i := 7) (N := some 115) (v := ?_) (a' := ?_) #[true, true, true, true, true, true, true, true, false, false, false, false, false] rfl rfl (by kernel_rfl) (fun _ _ _ h => h) (Or.inl ⟨by rfl, ?_⟩) ?_ ?_
            rotate_left
            · intro w'
              go_simp
              with_reducible rfl
            rotate_left
            · simp only [Act.put, List.setIfInBounds_toArray, List.set_cons_zero, List.set_cons_succ, i64_w, i32_w]
              rfl
            refine pure_ (i := 8) (N := some 123) (v := ?_) (a' := ?_) #[true, true, true, true, true, true, true, true, true, false, false, false, false] rfl rfl (by kernel_rfl) (fun _ _ _ h => h) (Or.inl ⟨by rfl, ?_⟩) ?_ ?_
            rotate_left
            · intro w'
              go_simp
              with_reducible rfl
            rotate_left
            · simp only [Act.put, List.setIfInBounds_toArray, List.set_cons_zero, List.set_cons_succ, i64_w, i32_w]
              rfl
            refine pure_ (i := 9) (N := some 124) (v := ?_) (a' := ?_) #[true, true, true, true, true, true, true, true, true, true, false, false, false] rfl rfl (by kernel_rfl) (fun _ _ _ h => h) (Or.inl ⟨by rfl, ?_⟩) ?_ ?_
            rotate_left
            · intro w'
              go_simp
              with_reducible rfl
            rotate_left
            · simp only [Act.put, List.setIfInBounds_toArray, List.set_cons_zero, List.set_cons_succ, i64_w, i32_w]
              rfl
            refine one_ (i := 10) (N := some 18) #[true, true, true, true, true, true, true, true, true, true, true, false, false] rfl rfl (by kernel_rfl) (by decide) (fun K hK => ?_)
            refine value_ (w1 := ?_) (v := ?_) (by rfl) rfl ?_ ?_
            rotate_left 2
            · go_simp
              constructor
              · rfl
              · rfl
            replace HB := Aside0.mk (below_alloc HB.out (.cells #[.int .i64 0, .int .i64 0, .int .i64 0, .slice none 0 0] 27))
            replace Kgb0 := Aside0.mk (blk_alloc Kgb0.out (.cells #[.int .i64 0, .int .i64 0, .int .i64 0, .slice none 0 0] 27))
            replace Kgb1 := Aside0.mk (blk_alloc Kgb1.out (.cells #[.int .i64 0, .int .i64 0, .int .i64 0, .slice none 0 0] 27))
            replace Kgw := Aside0.mk (blk_alloc Kgw.out (.cells #[.int .i64 0, .int .i64 0, .int .i64 0, .slice none 0 0] 27))
            replace Kgg := Aside0.mk (blk_alloc Kgg.out (.cells #[.int .i64 0, .int .i64 0, .int .i64 0, .slice none 0 0] 27))
            replace Rw := Aside0.mk (Kd.R_alloc Rw.out (.cells #[.int .i64 0, .int .i64 0, .int .i64 0, .slice none 0 0] 27))
            replace Rg := Aside0.mk (Kd.R_alloc Rg.out (.cells #[.int .i64 0, .int .i64 0, .int .i64 0, .slice none 0 0] 27))
            replace HT_0 := Aside0.mk (Kd.C_alloc HT_0.out (.cells #[.int .i64 0, .int .i64 0, .int .i64 0, .slice none 0 0] 27))
            replace HT_1 := Aside0.mk (Kd.C_alloc HT_1.out (.cells #[.int .i64 0, .int .i64 0, .int .i64 0, .slice none 0 0] 27))
            replace HT_2 := Aside0.mk (Kd.C_alloc HT_2.out (.cells #[.int .i64 0, .int .i64 0, .int .i64 0, .slice none 0 0] 27))
            replace Rh := Aside0.mk (Kd.R_mono (Kd.R_bound (Kd.R_alloc Rh.out (.cells #[.int .i64 0, .int .i64 0, .int .i64 0, .slice none 0 0] 27))) (fun k_ hk_ => (⟨hk_.1.1, hk_.2.2.1⟩ : w41.heap.size ≤ k_ ∧ k_ < (w46.alloc (.cells #[.int .i64 0, .int .i64 0, .int .i64 0, .slice none 0 0] 27)).heap.size)))
            have KA_ := Aside0.mk (blk_new w46 (.cells #[.int .i64 0, .int .i64 0, .int .i64 0, .slice none 0 0] 27 (0, 0)))
            have GA_ := HZh
            replace HZh := Aside0.mk (Nat.le_trans HZh.out (below_alloc (Below.refl _ _) (.cells #[.int .i64 0, .int .i64 0, .int .i64 0, .slice none 0 0] 27)).size)
            refine hK.out _ _ ⟨((blk_cell Kgb0.out 0).trans rfl), ((blk_cell Kgb0.out 1).trans rfl), ((blk_cell Kgb0.out 2).trans rfl), ((blk_cell Kgb0.out 3).trans rfl), ((blk_cell Kgb1.out 0).trans rfl), ((blk_cell Kgb1.out 1).trans rfl), ((blk_cell Kgb1.out 2).trans rfl), ((blk_cell Kgb1.out 3).trans rfl)⟩ (fun hHeld => ?_)
            clear hK K
            refine norm_ (a' := ?_) ?_ ?_
            rotate_left
            · show Act.put _ (some 18) _ = _
              simp only [Act.put, List.setIfInBounds_toArray, List.set_cons_zero, List.set_cons_succ, i64_w, i32_w]
              rfl
            exact norm_ (by first | (simp only [putAll, Act.put, List.setIfInBounds_toArray, List.set_cons_zero, List.set_cons_succ]; done) | (simp only [putAll, Act.put, List.setIfInBounds_toArray, List.set_cons_zero, List.set_cons_succ]; rfl)) (hCont (.slice At0 x0_3.length ct0, .slice At1 x1_3.length ct1, .slice At2 x2_0.length ct2, vw_, w46.heap.size) _ ⟨Rh.out, KA_.out, GA_.out, Kgb0.out, Kgb1.out, Kgw.out, Kgg.out, Rw.out, Rg.out, HB.out, HZh.out⟩)
          · skip
            refine value_ (w1 := ?_) (v := ?_) (by rfl) rfl ?_ ?_
            rotate_left 2
            · go_simp
              constructor
              · rfl
              · rfl
            replace HB := Aside0.mk (below_alloc HB.out (.cells #[.int .i64 0, .int .i64 0, .int .i64 0, .slice none 0 0] 27))
            replace Kgb0 := Aside0.mk (blk_alloc Kgb0.out (.cells #[.int .i64 0, .int .i64 0, .int .i64 0, .slice none 0 0] 27))
            replace Kgb1 := Aside0.mk (blk_alloc Kgb1.out (.cells #[.int .i64 0, .int .i64 0, .int .i64 0, .slice none 0 0] 27))
            replace Kgw := Aside0.mk (blk_alloc Kgw.out (.cells #[.int .i64 0, .int .i64 0, .int .i64 0, .slice none 0 0] 27))
            replace Kgg := Aside0.mk (blk_alloc Kgg.out (.cells #[.int .i64 0, .int .i64 0, .int .i64 0, .slice none 0 0] 27))
            replace Rw := Aside0.mk (Kd.R_alloc Rw.out (.cells #[.int .i64 0, .int .i64 0, .int .i64 0, .slice none 0 0] 27))
            replace Rg := Aside0.mk (Kd.R_alloc Rg.out (.cells #[.int .i64 0, .int .i64 0, .int .i64 0, .slice none 0 0] 27))
            replace HT_0 := Aside0.mk (Kd.C_alloc HT_0.out (.cells #[.int .i64 0, .int .i64 0, .int .i64 0, .slice none 0 0] 27))
            replace HT_1 := Aside0.mk (Kd.C_alloc HT_1.out (.cells #[.int .i64 0, .int .i64 0, .int .i64 0, .slice none 0 0] 27))
            replace HT_2 := Aside0.mk (Kd.C_alloc HT_2.out (.cells #[.int .i64 0, .int .i64 0, .int .i64 0, .slice none 0 0] 27))
            have KA_ := Aside0.mk (blk_new w45 (.cells #[.int .i64 0, .int .i64 0, .int .i64 0, .slice none 0 0] 27 (0, 0)))
            have GA_ := HZh
            replace HZh := Aside0.mk (Nat.le_trans HZh.out (below_alloc (Below.refl _ _) (.cells #[.int .i64 0, .int .i64 0, .int .i64 0, .slice none 0 0] 27)).size)
            refine hK.out _ _ ⟨((blk_cell Kgb0.out 0).trans rfl), ((blk_cell Kgb0.out 1).trans rfl), ((blk_cell Kgb0.out 2).trans rfl), ((blk_cell Kgb0.out 3).trans rfl), ((blk_cell Kgb1.out 0).trans rfl), ((blk_cell Kgb1.out 1).trans rfl), ((blk_cell Kgb1.out 2).trans rfl), ((blk_cell Kgb1.out 3).trans rfl)⟩ (fun hHeld => ?_)
            clear hK K
            refine norm_ (a' := ?_) ?_ ?_
            rotate_left
            · show Act.put _ (some 18) _ = _
              simp only [Act.put, List.setIfInBounds_toArray, List.set_cons_zero, List.set_cons_succ, i64_w, i32_w]
              rfl
            refine one_ (i := 6) (N := some 122) #[true, true, true, true, true, true, true, false, false, false, true, false, false] rfl rfl (by kernel_rfl) (by decide) (fun K hK => ?_)
            refine goes_ Try.func74 (by kernel_rfl) rfl #[.agg #[.int .i64 x0_0, .int .i64 x0_1, .int .i64 x0_2, .slice At0 x0_3.length ct0], .agg #[.int .i64 x1_0, .int .i64 x1_1, .int .i64 x1_2, .slice At1 x1_3.length ct1], .slice At2 x2_0.length ct2] (by rfl) rfl rfl (by simp only [List.map_toArray, List.map_cons, List.map_nil]; rfl) ?_
            with_reducible refine (impl_PatchImage.calls k x0_0 x0_1 x0_2 At0 ct0 x0_3 x1_0 x1_1 x1_2 At1 ct1 x1_3 At2 ct2 x2_0 v0 v1 v2 v3 vok _ HT_0.out HL_0.out HT_1.out HL_1.out HT_2.out HL_2.out HIM.out).mono ?_
            rintro e w49 ⟨vw_, rfl, hr_, hb_⟩
            refine ⟨_, rfl, ?_⟩
            have HZp_ := HZh
            have HBp_ := HB
            replace HB := Aside0.mk (below_then HB.out HB.out.size hb_)
            replace Kgb0 := Aside0.mk (blk_below Kgb0.out hb_)
            replace Kgb1 := Aside0.mk (blk_below Kgb1.out hb_)
            replace Kgw := Aside0.mk (blk_below Kgw.out hb_)
            replace Kgg := Aside0.mk (blk_below Kgg.out hb_)
            replace Rw := Aside0.mk (Kd.R_below Rw.out hb_)
            replace Rg := Aside0.mk (Kd.R_below Rg.out hb_)
            replace HT_0 := Aside0.mk (Kd.C_below HT_0.out hb_)
            replace HT_1 := Aside0.mk (Kd.C_below HT_1.out hb_)
            replace HT_2 := Aside0.mk (Kd.C_below HT_2.out hb_)
            replace KA_ := Aside0.mk (blk_below KA_.out hb_)
            replace HZh := Aside0.mk (Nat.le_trans HZh.out hb_.size)
            have Rh := Aside0.mk (Kd.R_lower (Kd.R_mono (Kd.R_bound hr_) (fun k_ hk_ => (⟨Nat.le_trans HZp_.out hk_.2.1, hk_.2.2.1⟩ : w41.heap.size ≤ k_ ∧ k_ < w49.heap.size))) HBp_.out.size)
            clear hr_ hb_ HZp_ HBp_
            refine hK.out _ _ ⟨((blk_cell Kgb0.out 0).trans rfl), ((blk_cell Kgb0.out 1).trans rfl), ((blk_cell Kgb0.out 2).trans rfl), ((blk_cell Kgb0.out 3).trans rfl), ((blk_cell Kgb1.out 0).trans rfl), ((blk_cell Kgb1.out 1).trans rfl), ((blk_cell Kgb1.out 2).trans rfl), ((blk_cell Kgb1.out 3).trans rfl)⟩ (fun hHeld => ?_)
            clear hK K
            refine norm_ (a' := ?_) ?_ ?_
            rotate_left
            · show Act.put _ (some 122) _ = _
              simp only [Act.put, List.setIfInBounds_toArray, List.set_cons_zero, List.set_cons_succ, i64_w, i32_w]
              rfl
            refine pure_ (i := 7) (N := some 115) (v := ?_) (a' := ?_) #[true, true, true, true, true, true, true, true, false, false, true, false, false] rfl rfl (by kernel_rfl) (fun _ _ _ h => h) (Or.inl ⟨by rfl, ?_⟩) ?_ ?_
            rotate_left
            · intro w'
              go_simp
              with_reducible rfl
            rotate_left
            · simp only [Act.put, List.setIfInBounds_toArray, List.set_cons_zero, List.set_cons_succ, i64_w, i32_w]
              rfl
            refine pure_ (i := 8) (N := some 123) (v := ?_) (a' := ?_) #[true, true, true, true, true, true, true, true, true, false, true, false, false] rfl rfl (by kernel_rfl) (fun _ _ _ h => h) (Or.inl ⟨by rfl, ?_⟩) ?_ ?_
            rotate_left
            · intro w'
              go_simp
              with_reducible rfl
            rotate_left
            · simp only [Act.put, List.setIfInBounds_toArray, List.set_cons_zero, List.set_cons_succ, i64_w, i32_w]
              rfl
            refine pure_ (i := 9) (N := some 124) (v := ?_) (a' := ?_) #[true, true, true, true, true, true, true, true, true, true, true, false, false] rfl rfl (by kernel_rfl) (fun _ _ _ h => h) (Or.inl ⟨by rfl, ?_⟩) ?_ ?_
            rotate_left
            · intro w'
              go_simp
              with_reducible rfl
            rotate_left
            · simp only [Act.put, List.setIfInBounds_toArray, List.set_cons_zero, List.set_cons_succ, i64_w, i32_w]
              rfl
            exact norm_ (by first | (simp only [putAll, Act.put, List.setIfInBounds_toArray, List.set_cons_zero, List.set_cons_succ]; done) | (simp only [putAll, Act.put, List.setIfInBounds_toArray, List.set_cons_zero, List.set_cons_succ]; rfl)) (hCont (.slice At0 x0_3.length ct0, .slice At1 x1_3.length ct1, .slice At2 x2_0.length ct2, vw_, w45.heap.size) _ ⟨Rh.out, KA_.out, GA_.out, Kgb0.out, Kgb1.out, Kgw.out, Kgg.out, Rw.out, Rg.out, HB.out, HZh.out⟩)
        · skip
          refine value_ (w1 := ?_) (v := ?_) (by rfl) rfl ?_ ?_
          rotate_left 2
          · go_simp
            constructor
            · rfl
            · rfl
          replace HB := Aside0.mk (below_alloc HB.out (.cells #[.int .i64 0, .int .i64 0, .int .i64 0, .slice none 0 0] 27))
          replace Kgb0 := Aside0.mk (blk_alloc Kgb0.out (.cells #[.int .i64 0, .int .i64 0, .int .i64 0, .slice none 0 0] 27))
          replace Kgb1 := Aside0.mk (blk_alloc Kgb1.out (.cells #[.int .i64 0, .int .i64 0, .int .i64 0, .slice none 0 0] 27))
          replace Kgw := Aside0.mk (blk_alloc Kgw.out (.cells #[.int .i64 0, .int .i64 0, .int .i64 0, .slice none 0 0] 27))
          replace Kgg := Aside0.mk (blk_alloc Kgg.out (.cells #[.int .i64 0, .int .i64 0, .int .i64 0, .slice none 0 0] 27))
          replace Rw := Aside0.mk (Kd.R_alloc Rw.out (.cells #[.int .i64 0, .int .i64 0, .int .i64 0, .slice none 0 0] 27))
          replace Rg := Aside0.mk (Kd.R_alloc Rg.out (.cells #[.int .i64 0, .int .i64 0, .int .i64 0, .slice none 0 0] 27))
          replace HT_0 := Aside0.mk (Kd.C_alloc HT_0.out (.cells #[.int .i64 0, .int .i64 0, .int .i64 0, .slice none 0 0] 27))
          replace HT_1 := Aside0.mk (Kd.C_alloc HT_1.out (.cells #[.int .i64 0, .int .i64 0, .int .i64 0, .slice none 0 0] 27))
          have KA_ := Aside0.mk (blk_new w44 (.cells #[.int .i64 0, .int .i64 0, .int .i64 0, .slice none 0 0] 27 (0, 0)))
          have GA_ := HZh
          replace HZh := Aside0.mk (Nat.le_trans HZh.out (below_alloc (Below.refl _ _) (.cells #[.int .i64 0, .int .i64 0, .int .i64 0, .slice none 0 0] 27)).size)
          refine hK.out _ _ ⟨((blk_cell Kgb0.out 0).trans rfl), ((blk_cell Kgb0.out 1).trans rfl), ((blk_cell Kgb0.out 2).trans rfl), ((blk_cell Kgb0.out 3).trans rfl), ((blk_cell Kgb1.out 0).trans rfl), ((blk_cell Kgb1.out 1).trans rfl), ((blk_cell Kgb1.out 2).trans rfl), ((blk_cell Kgb1.out 3).trans rfl)⟩ (fun hHeld => ?_)
          clear hK K
          refine norm_ (a' := ?_) ?_ ?_
          rotate_left
          · show Act.put _ (some 18) _ = _
            simp only [Act.put, List.setIfInBounds_toArray, List.set_cons_zero, List.set_cons_succ, i64_w, i32_w]
            rfl
          refine one_ (i := 5) (N := some 121) #[true, true, true, true, true, true, false, false, false, false, true, false, false] rfl rfl (by kernel_rfl) (by decide) (fun K hK => ?_)
          refine goes_ Try.func73 (by kernel_rfl) rfl #[.slice A2_0 l2_0.length c2_0] (by rfl) rfl rfl (by simp only [List.map_toArray, List.map_cons, List.map_nil]; rfl) ?_
          with_reducible refine (laws_toBoxS.calls k A2_0 c2_0 l2_0 x2_0 _ (Kd.C_below HR2.out HB.out) HC2.out HT2.out).mono ?_
          rintro e w51 ⟨vt_, rfl, hr_, hb_⟩
          refine ⟨_, rfl, ?_⟩
          replace HB := Aside0.mk (below_then HB.out HB.out.size hb_)
          replace Kgb0 := Aside0.mk (blk_below Kgb0.out hb_)
          replace Kgb1 := Aside0.mk (blk_below Kgb1.out hb_)
          replace Kgw := Aside0.mk (blk_below Kgw.out hb_)
          replace Kgg := Aside0.mk (blk_below Kgg.out hb_)
          replace Rw := Aside0.mk (Kd.R_below Rw.out hb_)
          replace Rg := Aside0.mk (Kd.R_below Rg.out hb_)
          replace HT_0 := Aside0.mk (Kd.C_below HT_0.out hb_)
          replace HT_1 := Aside0.mk (Kd.C_below HT_1.out hb_)
          replace KA_ := Aside0.mk (blk_below KA_.out hb_)
          replace HZh := Aside0.mk (Nat.le_trans HZh.out hb_.size)
          obtain ⟨At2, ct2, rfl, hl_, hC_⟩ := Kd.R_reads hr_
          have HT_2 := Aside0.mk hC_
          have HL_2 := Aside0.mk hl_
          clear hr_ hb_ hl_ hC_
          refine hK.out _ _ ⟨((blk_cell Kgb0.out 0).trans rfl), ((blk_cell Kgb0.out 1).trans rfl), ((blk_cell Kgb0.out 2).trans rfl), ((blk_cell Kgb0.out 3).trans rfl), ((blk_cell Kgb1.out 0).trans rfl), ((blk_cell Kgb1.out 1).trans rfl), ((blk_cell Kgb1.out 2).trans rfl), ((blk_cell Kgb1.out 3).trans rfl)⟩ (fun hHeld => ?_)
          clear hK K
          refine norm_ (a' := ?_) ?_ ?_
          rotate_left
          · show Act.put _ (some 121) _ = _
            simp only [Act.put, List.setIfInBounds_toArray, List.set_cons_zero, List.set_cons_succ, i64_w, i32_w]
            rfl
          refine one_ (i := 6) (N := some 122) #[true, true, true, true, true, true, true, false, false, false, true, false, false] rfl rfl (by kernel_rfl) (by decide) (fun K hK => ?_)
          refine goes_ Try.func74 (by kernel_rfl) rfl #[.agg #[.int .i64 x0_0, .int .i64 x0_1, .int .i64 x0_2, .slice At0 x0_3.length ct0], .agg #[.int .i64 x1_0, .int .i64 x1_1, .int .i64 x1_2, .slice At1 x1_3.length ct1], .slice At2 x2_0.length ct2] (by rfl) rfl rfl (by simp only [List.map_toArray, List.map_cons, List.map_nil]; rfl) ?_
          with_reducible refine (impl_PatchImage.calls k x0_0 x0_1 x0_2 At0 ct0 x0_3 x1_0 x1_1 x1_2 At1 ct1 x1_3 At2 ct2 x2_0 v0 v1 v2 v3 vok _ HT_0.out HL_0.out HT_1.out HL_1.out HT_2.out HL_2.out HIM.out).mono ?_
          rintro e w52 ⟨vw_, rfl, hr_, hb_⟩
          refine ⟨_, rfl, ?_⟩
          have HZp_ := HZh
          have HBp_ := HB
          replace HB := Aside0.mk (below_then HB.out HB.out.size hb_)
          replace Kgb0 := Aside0.mk (blk_below Kgb0.out hb_)
          replace Kgb1 := Aside0.mk (blk_below Kgb1.out hb_)
          replace Kgw := Aside0.mk (blk_below Kgw.out hb_)
          replace Kgg := Aside0.mk (blk_below Kgg.out hb_)
          replace Rw := Aside0.mk (Kd.R_below Rw.out hb_)
          replace Rg := Aside0.mk (Kd.R_below Rg.out hb_)
          replace HT_0 := Aside0.mk (Kd.C_below HT_0.out hb_)
          replace HT_1 := Aside0.mk (Kd.C_below HT_1.out hb_)
          replace HT_2 := Aside0.mk (Kd.C_below HT_2.out hb_)
          replace KA_ := Aside0.mk (blk_below KA_.out hb_)
          replace HZh := Aside0.mk (Nat.le_trans HZh.out hb_.size)
          have Rh := Aside0.mk (Kd.R_lower (Kd.R_mono (Kd.R_bound hr_) (fun k_ hk_ => (⟨Nat.le_trans HZp_.out hk_.2.1, hk_.2.2.1⟩ : w41.heap.size ≤ k_ ∧ k_ < w52.heap.size))) HBp_.out.size)
          clear hr_ hb_ HZp_ HBp_
          refine hK.out _ _ ⟨((blk_cell Kgb0.out 0).trans rfl), ((blk_cell Kgb0.out 1).trans rfl), ((blk_cell Kgb0.out 2).trans rfl), ((blk_cell Kgb0.out 3).trans rfl), ((blk_cell Kgb1.out 0).trans rfl), ((blk_cell Kgb1.out 1).trans rfl), ((blk_cell Kgb1.out 2).trans rfl), ((blk_cell Kgb1.out 3).trans rfl)⟩ (fun hHeld => ?_)
          clear hK K
          refine norm_ (a' := ?_) ?_ ?_
          rotate_left
          · show Act.put _ (some 122) _ = _
            simp only [Act.put, List.setIfInBounds_toArray, List.set_cons_zero, List.set_cons_succ, i64_w, i32_w]
            rfl
          refine pure_ (i := 7) (N := some 115) (v := ?_) (a' := ?_) #[true, true, true, true, true, true, true, true, false, false, true, false, false] rfl rfl (by kernel_rfl) (fun _ _ _ h => h) (Or.inl ⟨by rfl, ?_⟩) ?_ ?_
          rotate_left
          · intro w'
            go_simp
            with_reducible rfl
          rotate_left
          · simp only [Act.put, List.setIfInBounds_toArray, List.set_cons_zero, List.set_cons_succ, i64_w, i32_w]
            rfl
          refine pure_ (i := 8) (N := some 123) (v := ?_) (a' := ?_) #[true, true, true, true, true, true, true, true, true, false, true, false, false] rfl rfl (by kernel_rfl) (fun _ _ _ h => h) (Or.inl ⟨by rfl, ?_⟩) ?_ ?_
          rotate_left
          · intro w'
            go_simp
            with_reducible rfl
          rotate_left
          · simp only [Act.put, List.setIfInBounds_toArray, List.set_cons_zero, List.set_cons_succ, i64_w, i32_w]
            rfl
          refine pure_ (i := 9) (N := some 124) (v := ?_) (a' := ?_) #[true, true, true, true, true, true, true, true, true, true, true, false, false] rfl rfl (by kernel_rfl) (fun _ _ _ h => h) (Or.inl ⟨by rfl, ?_⟩) ?_ ?_
          rotate_left
          · intro w'
            go_simp
            with_reducible rfl
          rotate_left
          · simp only [Act.put, List.setIfInBounds_toArray, List.set_cons_zero, List.set_cons_succ, i64_w, i32_w]
            rfl
          exact norm_ (by first | (simp only [putAll, Act.put, List.setIfInBounds_toArray, List.set_cons_zero, List.set_cons_succ]; done) | (simp only [putAll, Act.put, List.setIfInBounds_toArray, List.set_cons_zero, List.set_cons_succ]; rfl)) (hCont (.slice At0 x0_3.length ct0, .slice At1 x1_3.length ct1, .slice At2 x2_0.length ct2, vw_, w44.heap.size) _ ⟨Rh.out, KA_.out, GA_.out, Kgb0.out, Kgb1.out, Kgw.out, Kgg.out, Rw.out, Rg.out, HB.out, HZh.out⟩)
      · skip
        refine value_ (w1 := ?_) (v := ?_) (by rfl) rfl ?_ ?_
        rotate_left 2
        · go_simp
          constructor
          · rfl
          · rfl
        replace HB := Aside0.mk (below_alloc HB.out (.cells #[.int .i64 0, .int .i64 0, .int .i64 0, .slice none 0 0] 27))
        replace Kgb0 := Aside0.mk (blk_alloc Kgb0.out (.cells #[.int .i64 0, .int .i64 0, .int .i64 0, .slice none 0 0] 27))
        replace Kgb1 := Aside0.mk (blk_alloc Kgb1.out (.cells #[.int .i64 0, .int .i64 0, .int .i64 0, .slice none 0 0] 27))
        replace Kgw := Aside0.mk (blk_alloc Kgw.out (.cells #[.int .i64 0, .int .i64 0, .int .i64 0, .slice none 0 0] 27))
        replace Kgg := Aside0.mk (blk_alloc Kgg.out (.cells #[.int .i64 0, .int .i64 0, .int .i64 0, .slice none 0 0] 27))
        replace Rw := Aside0.mk (Kd.R_alloc Rw.out (.cells #[.int .i64 0, .int .i64 0, .int .i64 0, .slice none 0 0] 27))
        replace Rg := Aside0.mk (Kd.R_alloc Rg.out (.cells #[.int .i64 0, .int .i64 0, .int .i64 0, .slice none 0 0] 27))
        replace HT_0 := Aside0.mk (Kd.C_alloc HT_0.out (.cells #[.int .i64 0, .int .i64 0, .int .i64 0, .slice none 0 0] 27))
        have KA_ := Aside0.mk (blk_new w43 (.cells #[.int .i64 0, .int .i64 0, .int .i64 0, .slice none 0 0] 27 (0, 0)))
        have GA_ := HZh
        replace HZh := Aside0.mk (Nat.le_trans HZh.out (below_alloc (Below.refl _ _) (.cells #[.int .i64 0, .int .i64 0, .int .i64 0, .slice none 0 0] 27)).size)
        refine hK.out _ _ ⟨((blk_cell Kgb0.out 0).trans rfl), ((blk_cell Kgb0.out 1).trans rfl), ((blk_cell Kgb0.out 2).trans rfl), ((blk_cell Kgb0.out 3).trans rfl), ((blk_cell Kgb1.out 0).trans rfl), ((blk_cell Kgb1.out 1).trans rfl), ((blk_cell Kgb1.out 2).trans rfl), ((blk_cell Kgb1.out 3).trans rfl)⟩ (fun hHeld => ?_)
        clear hK K
        refine norm_ (a' := ?_) ?_ ?_
        rotate_left
        · show Act.put _ (some 18) _ = _
          simp only [Act.put, List.setIfInBounds_toArray, List.set_cons_zero, List.set_cons_succ, i64_w, i32_w]
          rfl
        refine one_ (i := 3) (N := some 119) #[true, true, true, true, true, false, false, false, false, false, true, false, false] rfl rfl (by kernel_rfl) (by decide) (fun K hK => ?_)
        refine goes_ Try.func22 (by kernel_rfl) rfl #[.agg #[.int .i64 a1_0, .int .i64 a1_1, .int .i64 a1_2, .slice A1_3 l1_3.length c1_3]] (by rfl) rfl rfl (by simp only [List.map_toArray, List.map_cons, List.map_nil]; rfl) ?_
        with_reducible refine (laws_toImage.calls k a1_0 a1_1 a1_2 A1_3 c1_3 l1_3 x1_0 x1_1 x1_2 x1_3 _ (Kd.C_below HR1.out HB.out) HC1.out HT1.out).mono ?_
        rintro e w54 ⟨vt_, rfl, hr_, hb_⟩
        refine ⟨_, rfl, ?_⟩
        replace HB := Aside0.mk (below_then HB.out HB.out.size hb_)
        replace Kgb0 := Aside0.mk (blk_below Kgb0.out hb_)
        replace Kgb1 := Aside0.mk (blk_below Kgb1.out hb_)
        replace Kgw := Aside0.mk (blk_below Kgw.out hb_)
        replace Kgg := Aside0.mk (blk_below Kgg.out hb_)
        replace Rw := Aside0.mk (Kd.R_below Rw.out hb_)
        replace Rg := Aside0.mk (Kd.R_below Rg.out hb_)
        replace HT_0 := Aside0.mk (Kd.C_below HT_0.out hb_)
        replace KA_ := Aside0.mk (blk_below KA_.out hb_)
        replace HZh := Aside0.mk (Nat.le_trans HZh.out hb_.size)
        obtain ⟨At1, ct1, rfl, hl_, hC_⟩ := Kd.R_reads hr_
        have HT_1 := Aside0.mk hC_
        have HL_1 := Aside0.mk hl_
        clear hr_ hb_ hl_ hC_
        refine hK.out _ _ ⟨((blk_cell Kgb0.out 0).trans rfl), ((blk_cell Kgb0.out 1).trans rfl), ((blk_cell Kgb0.out 2).trans rfl), ((blk_cell Kgb0.out 3).trans rfl), ((blk_cell Kgb1.out 0).trans rfl), ((blk_cell Kgb1.out 1).trans rfl), ((blk_cell Kgb1.out 2).trans rfl), ((blk_cell Kgb1.out 3).trans rfl)⟩ (fun hHeld => ?_)
        clear hK K
        refine norm_ (a' := ?_) ?_ ?_
        rotate_left
        · show Act.put _ (some 119) _ = _
          simp only [Act.put, List.setIfInBounds_toArray, List.set_cons_zero, List.set_cons_succ, i64_w, i32_w]
          rfl
        refine one_ (i := 5) (N := some 121) #[true, true, true, true, true, true, false, false, false, false, true, false, false] rfl rfl (by kernel_rfl) (by decide) (fun K hK => ?_)
        refine goes_ Try.func73 (by kernel_rfl) rfl #[.slice A2_0 l2_0.length c2_0] (by rfl) rfl rfl (by simp only [List.map_toArray, List.map_cons, List.map_nil]; rfl) ?_
        with_reducible refine (laws_toBoxS.calls k A2_0 c2_0 l2_0 x2_0 _ (Kd.C_below HR2.out HB.out) HC2.out HT2.out).mono ?_
        rintro e w55 ⟨vt_, rfl, hr_, hb_⟩
        refine ⟨_, rfl, ?_⟩
        replace HB := Aside0.mk (below_then HB.out HB.out.size hb_)
        replace Kgb0 := Aside0.mk (blk_below Kgb0.out hb_)
        replace Kgb1 := Aside0.mk (blk_below Kgb1.out hb_)
        replace Kgw := Aside0.mk (blk_below Kgw.out hb_)
        replace Kgg := Aside0.mk (blk_below Kgg.out hb_)
        replace Rw := Aside0.mk (Kd.R_below Rw.out hb_)
        replace Rg := Aside0.mk (Kd.R_below Rg.out hb_)
        replace HT_0 := Aside0.mk (Kd.C_below HT_0.out hb_)
        replace HT_1 := Aside0.mk (Kd.C_below HT_1.out hb_)
        replace KA_ := Aside0.mk (blk_below KA_.out hb_)
        replace HZh := Aside0.mk (Nat.le_trans HZh.out hb_.size)
        obtain ⟨At2, ct2, rfl, hl_, hC_⟩ := Kd.R_reads hr_
        have HT_2 := Aside0.mk hC_
        have HL_2 := Aside0.mk hl_
        clear hr_ hb_ hl_ hC_
        refine hK.out _ _ ⟨((blk_cell Kgb0.out 0).trans rfl), ((blk_cell Kgb0.out 1).trans rfl), ((blk_cell Kgb0.out 2).trans rfl), ((blk_cell Kgb0.out 3).trans rfl), ((blk_cell Kgb1.out 0).trans rfl), ((blk_cell Kgb1.out 1).trans rfl), ((blk_cell Kgb1.out 2).trans rfl), ((blk_cell Kgb1.out 3).trans rfl)⟩ (fun hHeld => ?_)
        clear hK K
        refine norm_ (a' := ?_) ?_ ?_
        rotate_left
        · show Act.put _ (some 121) _ = _
          simp only [Act.put, List.setIfInBounds_toArray, List.set_cons_zero, List.set_cons_succ, i64_w, i32_w]
          rfl
        refine one_ (i := 6) (N := some 122) #[true, true, true, true, true, true, true, false, false, false, true, false, false] rfl rfl (by kernel_rfl) (by decide) (fun K hK => ?_)
        refine goes_ Try.func74 (by kernel_rfl) rfl #[.agg #[.int .i64 x0_0, .int .i64 x0_1, .int .i64 x0_2, .slice At0 x0_3.length ct0], .agg #[.int .i64 x1_0, .int .i64 x1_1, .int .i64 x1_2, .slice At1 x1_3.length ct1], .slice At2 x2_0.length ct2] (by rfl) rfl rfl (by simp only [List.map_toArray, List.map_cons, List.map_nil]; rfl) ?_
        with_reducible refine (impl_PatchImage.calls k x0_0 x0_1 x0_2 At0 ct0 x0_3 x1_0 x1_1 x1_2 At1 ct1 x1_3 At2 ct2 x2_0 v0 v1 v2 v3 vok _ HT_0.out HL_0.out HT_1.out HL_1.out HT_2.out HL_2.out HIM.out).mono ?_
        rintro e w56 ⟨vw_, rfl, hr_, hb_⟩
        refine ⟨_, rfl, ?_⟩
        have HZp_ := HZh
        have HBp_ := HB
        replace HB := Aside0.mk (below_then HB.out HB.out.size hb_)
        replace Kgb0 := Aside0.mk (blk_below Kgb0.out hb_)
        replace Kgb1 := Aside0.mk (blk_below Kgb1.out hb_)
        replace Kgw := Aside0.mk (blk_below Kgw.out hb_)
        replace Kgg := Aside0.mk (blk_below Kgg.out hb_)
        replace Rw := Aside0.mk (Kd.R_below Rw.out hb_)
        replace Rg := Aside0.mk (Kd.R_below Rg.out hb_)
        replace HT_0 := Aside0.mk (Kd.C_below HT_0.out hb_)
        replace HT_1 := Aside0.mk (Kd.C_below HT_1.out hb_)
        replace HT_2 := Aside0.mk (Kd.C_below HT_2.out hb_)
        replace KA_ := Aside0.mk (blk_below KA_.out hb_)
        replace HZh := Aside0.mk (Nat.le_trans HZh.out hb_.size)
        have Rh := Aside0.mk (Kd.R_lower (Kd.R_mono (Kd.R_bound hr_) (fun k_ hk_ => (⟨Nat.le_trans HZp_.out hk_.2.1, hk_.2.2.1⟩ : w41.heap.size ≤ k_ ∧ k_ < w56.heap.size))) HBp_.out.size)
        clear hr_ hb_ HZp_ HBp_
        refine hK.out _ _ ⟨((blk_cell Kgb0.out 0).trans rfl), ((blk_cell Kgb0.out 1).trans rfl), ((blk_cell Kgb0.out 2).trans rfl), ((blk_cell Kgb0.out 3).trans rfl), ((blk_cell Kgb1.out 0).trans rfl), ((blk_cell Kgb1.out 1).trans rfl), ((blk_cell Kgb1.out 2).trans rfl), ((blk_cell Kgb1.out 3).trans rfl)⟩ (fun hHeld => ?_)
        clear hK K
        refine norm_ (a' := ?_) ?_ ?_
        rotate_left
        · show Act.put _ (some 122) _ = _
          simp only [Act.put, List.setIfInBounds_toArray, List.set_cons_zero, List.set_cons_succ, i64_w, i32_w]
          rfl
        refine pure_ (i := 7) (N := some 115) (v := ?_) (a' := ?_) #[true, true, true, true, true, true, true, true, false, false, true, false, false] rfl rfl (by kernel_rfl) (fun _ _ _ h => h) (Or.inl ⟨by rfl, ?_⟩) ?_ ?_
        rotate_left
        · intro w'
          go_simp
          with_reducible rfl
        rotate_left
        · simp only [Act.put, List.setIfInBounds_toArray, List.set_cons_zero, List.set_cons_succ, i64_w, i32_w]
          rfl
        refine pure_ (i := 8) (N := some 123) (v := ?_) (a' := ?_) #[true, true, true, true, true, true, true, true, true, false, true, false, false] rfl rfl (by kernel_rfl) (fun _ _ _ h => h) (Or.inl ⟨by rfl, ?_⟩) ?_ ?_
        rotate_left
        · intro w'
          go_simp
          with_reducible rfl
        rotate_left
        · simp only [Act.put, List.setIfInBounds_toArray, List.set_cons_zero, List.set_cons_succ, i64_w, i32_w]
          rfl
        refine pure_ (i := 9) (N := some 124) (v := ?_) (a' := ?_) #[true, true, true, true, true, true, true, true, true, true, true, false, false] rfl rfl (by kernel_rfl) (fun _ _ _ h => h) (Or.inl ⟨by rfl, ?_⟩) ?_ ?_
        rotate_left
        · intro w'
          go_simp
          with_reducible rfl
        rotate_left
        · simp only [Act.put, List.setIfInBounds_toArray, List.set_cons_zero, List.set_cons_succ, i64_w, i32_w]
          rfl
        exact norm_ (by first | (simp only [putAll, Act.put, List.setIfInBounds_toArray, List.set_cons_zero, List.set_cons_succ]; done) | (simp only [putAll, Act.put, List.setIfInBounds_toArray, List.set_cons_zero, List.set_cons_succ]; rfl)) (hCont (.slice At0 x0_3.length ct0, .slice At1 x1_3.length ct1, .slice At2 x2_0.length ct2, vw_, w43.heap.size) _ ⟨Rh.out, KA_.out, GA_.out, Kgb0.out, Kgb1.out, Kgw.out, Kgg.out, Rw.out, Rg.out, HB.out, HZh.out⟩)
    · skip
      refine value_ (w1 := ?_) (v := ?_) (by rfl) rfl ?_ ?_
      rotate_left 2
      · go_simp
        constructor
        · rfl
        · rfl
      replace HB := Aside0.mk (below_alloc HB.out (.cells #[.int .i64 0, .int .i64 0, .int .i64 0, .slice none 0 0] 27))
      replace Kgb0 := Aside0.mk (blk_alloc Kgb0.out (.cells #[.int .i64 0, .int .i64 0, .int .i64 0, .slice none 0 0] 27))
      replace Kgb1 := Aside0.mk (blk_alloc Kgb1.out (.cells #[.int .i64 0, .int .i64 0, .int .i64 0, .slice none 0 0] 27))
      replace Kgw := Aside0.mk (blk_alloc Kgw.out (.cells #[.int .i64 0, .int .i64 0, .int .i64 0, .slice none 0 0] 27))
      replace Kgg := Aside0.mk (blk_alloc Kgg.out (.cells #[.int .i64 0, .int .i64 0, .int .i64 0, .slice none 0 0] 27))
      replace Rw := Aside0.mk (Kd.R_alloc Rw.out (.cells #[.int .i64 0, .int .i64 0, .int .i64 0, .slice none 0 0] 27))
      replace Rg := Aside0.mk (Kd.R_alloc Rg.out (.cells #[.int .i64 0, .int .i64 0, .int .i64 0, .slice none 0 0] 27))
      have KA_ := Aside0.mk (blk_new w41.drew (.cells #[.int .i64 0, .int .i64 0, .int .i64 0, .slice none 0 0] 27 (0, 0)))
      have GA_ := HZh
      replace HZh := Aside0.mk (Nat.le_trans HZh.out (below_alloc (Below.refl _ _) (.cells #[.int .i64 0, .int .i64 0, .int .i64 0, .slice none 0 0] 27)).size)
      refine hK.out _ _ ⟨((blk_cell Kgb0.out 0).trans rfl), ((blk_cell Kgb0.out 1).trans rfl), ((blk_cell Kgb0.out 2).trans rfl), ((blk_cell Kgb0.out 3).trans rfl), ((blk_cell Kgb1.out 0).trans rfl), ((blk_cell Kgb1.out 1).trans rfl), ((blk_cell Kgb1.out 2).trans rfl), ((blk_cell Kgb1.out 3).trans rfl)⟩ (fun hHeld => ?_)
      clear hK K
      refine norm_ (a' := ?_) ?_ ?_
      rotate_left
      · show Act.put _ (some 18) _ = _
        simp only [Act.put, List.setIfInBounds_toArray, List.set_cons_zero, List.set_cons_succ, i64_w, i32_w]
        rfl
      refine one_ (i := 1) (N := some 117) #[true, true, true, false, true, false, false, false, false, false, true, false, false] rfl rfl (by kernel_rfl) (by decide) (fun K hK => ?_)
      refine goes_ Try.func22 (by kernel_rfl) rfl #[.agg #[.int .i64 a0_0, .int .i64 a0_1, .int .i64 a0_2, .slice A0_3 l0_3.length c0_3]] (by rfl) rfl rfl (by simp only [List.map_toArray, List.map_cons, List.map_nil]; rfl) ?_
      refine (laws_toImage.calls k a0_0 a0_1 a0_2 A0_3 c0_3 l0_3 x0_0 x0_1 x0_2 x0_3 _ (Kd.C_below HR0.out HB.out) HC0.out HT0.out).mono ?_
      rintro e w58 ⟨vt_, rfl, hr_, hb_⟩
      refine ⟨_, rfl, ?_⟩
      replace HB := Aside0.mk (below_then HB.out HB.out.size hb_)
      replace Kgb0 := Aside0.mk (blk_below Kgb0.out hb_)
      replace Kgb1 := Aside0.mk (blk_below Kgb1.out hb_)
      replace Kgw := Aside0.mk (blk_below Kgw.out hb_)
      replace Kgg := Aside0.mk (blk_below Kgg.out hb_)
      replace Rw := Aside0.mk (Kd.R_below Rw.out hb_)
      replace Rg := Aside0.mk (Kd.R_below Rg.out hb_)
      replace KA_ := Aside0.mk (blk_below KA_.out hb_)
      replace HZh := Aside0.mk (Nat.le_trans HZh.out hb_.size)
      obtain ⟨At0, ct0, rfl, hl_, hC_⟩ := Kd.R_reads hr_
      have HT_0 := Aside0.mk hC_
      have HL_0 := Aside0.mk hl_
      clear hr_ hb_ hl_ hC_
      refine hK.out _ _ ⟨((blk_cell Kgb0.out 0).trans rfl), ((blk_cell Kgb0.out 1).trans rfl), ((blk_cell Kgb0.out 2).trans rfl), ((blk_cell Kgb0.out 3).trans rfl), ((blk_cell Kgb1.out 0).trans rfl), ((blk_cell Kgb1.out 1).trans rfl), ((blk_cell Kgb1.out 2).trans rfl), ((blk_cell Kgb1.out 3).trans rfl)⟩ (fun hHeld => ?_)
      clear hK K
      refine norm_ (a' := ?_) ?_ ?_
      rotate_left
      · show Act.put _ (some 117) _ = _
        simp only [Act.put, List.setIfInBounds_toArray, List.set_cons_zero, List.set_cons_succ, i64_w, i32_w]
        rfl
      refine one_ (i := 3) (N := some 119) #[true, true, true, true, true, false, false, false, false, false, true, false, false] rfl rfl (by kernel_rfl) (by decide) (fun K hK => ?_)
      refine goes_ Try.func22 (by kernel_rfl) rfl #[.agg #[.int .i64 a1_0, .int .i64 a1_1, .int .i64 a1_2, .slice A1_3 l1_3.length c1_3]] (by rfl) rfl rfl (by simp only [List.map_toArray, List.map_cons, List.map_nil]; rfl) ?_
      with_reducible refine (laws_toImage.calls k a1_0 a1_1 a1_2 A1_3 c1_3 l1_3 x1_0 x1_1 x1_2 x1_3 _ (Kd.C_below HR1.out HB.out) HC1.out HT1.out).mono ?_
      rintro e w59 ⟨vt_, rfl, hr_, hb_⟩
      refine ⟨_, rfl, ?_⟩
      replace HB := Aside0.mk (below_then HB.out HB.out.size hb_)
      replace Kgb0 := Aside0.mk (blk_below Kgb0.out hb_)
      replace Kgb1 := Aside0.mk (blk_below Kgb1.out hb_)
      replace Kgw := Aside0.mk (blk_below Kgw.out hb_)
      replace Kgg := Aside0.mk (blk_below Kgg.out hb_)
      replace Rw := Aside0.mk (Kd.R_below Rw.out hb_)
      replace Rg := Aside0.mk (Kd.R_below Rg.out hb_)
      replace HT_0 := Aside0.mk (Kd.C_below HT_0.out hb_)
      replace KA_ := Aside0.mk (blk_below KA_.out hb_)
      replace HZh := Aside0.mk (Nat.le_trans HZh.out hb_.size)
      obtain ⟨At1, ct1, rfl, hl_, hC_⟩ := Kd.R_reads hr_
      have HT_1 := Aside0.mk hC_
      have HL_1 := Aside0.mk hl_
      clear hr_ hb_ hl_ hC_
      refine hK.out _ _ ⟨((blk_cell Kgb0.out 0).trans rfl), ((blk_cell Kgb0.out 1).trans rfl), ((blk_cell Kgb0.out 2).trans rfl), ((blk_cell Kgb0.out 3).trans rfl), ((blk_cell Kgb1.out 0).trans rfl), ((blk_cell Kgb1.out 1).trans rfl), ((blk_cell Kgb1.out 2).trans rfl), ((blk_cell Kgb1.out 3).trans rfl)⟩ (fun hHeld => ?_)
      clear hK K
      refine norm_ (a' := ?_) ?_ ?_
      rotate_left
      · show Act.put _ (some 119) _ = _
        simp only [Act.put, List.setIfInBounds_toArray, List.set_cons_zero, List.set_cons_succ, i64_w, i32_w]
        rfl
      refine one_ (i := 5) (N := some 121) #[true, true, true, true, true, true, false, false, false, false, true, false, false] rfl rfl (by kernel_rfl) (by decide) (fun K hK => ?_)
      refine goes_ Try.func73 (by kernel_rfl) rfl #[.slice A2_0 l2_0.length c2_0] (by rfl) rfl rfl (by simp only [List.map_toArray, List.map_cons, List.map_nil]; rfl) ?_
      with_reducible refine (laws_toBoxS.calls k A2_0 c2_0 l2_0 x2_0 _ (Kd.C_below HR2.out HB.out) HC2.out HT2.out).mono ?_
      rintro e w60 ⟨vt_, rfl, hr_, hb_⟩
      refine ⟨_, rfl, ?_⟩
      replace HB := Aside0.mk (below_then HB.out HB.out.size hb_)
      replace Kgb0 := Aside0.mk (blk_below Kgb0.out hb_)
      replace Kgb1 := Aside0.mk (blk_below Kgb1.out hb_)
      replace Kgw := Aside0.mk (blk_below Kgw.out hb_)
      replace Kgg := Aside0.mk (blk_below Kgg.out hb_)
      replace Rw := Aside0.mk (Kd.R_below Rw.out hb_)
      replace Rg := Aside0.mk (Kd.R_below Rg.out hb_)
      replace HT_0 := Aside0.mk (Kd.C_below HT_0.out hb_)
      replace HT_1 := Aside0.mk (Kd.C_below HT_1.out hb_)
      replace KA_ := Aside0.mk (blk_below KA_.out hb_)
      replace HZh := Aside0.mk (Nat.le_trans HZh.out hb_.size)
      obtain ⟨At2, ct2, rfl, hl_, hC_⟩ := Kd.R_reads hr_
      have HT_2 := Aside0.mk hC_
      have HL_2 := Aside0.mk hl_
      clear hr_ hb_ hl_ hC_
      refine hK.out _ _ ⟨((blk_cell Kgb0.out 0).trans rfl), ((blk_cell Kgb0.out 1).trans rfl), ((blk_cell Kgb0.out 2).trans rfl), ((blk_cell Kgb0.out 3).trans rfl), ((blk_cell Kgb1.out 0).trans rfl), ((blk_cell Kgb1.out 1).trans rfl), ((blk_cell Kgb1.out 2).trans rfl), ((blk_cell Kgb1.out 3).trans rfl)⟩ (fun hHeld => ?_)
      clear hK K
      refine norm_ (a' := ?_) ?_ ?_
      rotate_left
      · show Act.put _ (some 121) _ = _
        simp only [Act.put, List.setIfInBounds_toArray, List.set_cons_zero, List.set_cons_succ, i64_w, i32_w]
        rfl
      refine one_ (i := 6) (N := some 122) #[true, true, true, true, true, true, true, false, false, false, true, false, false] rfl rfl (by kernel_rfl) (by decide) (fun K hK => ?_)
      refine goes_ Try.func74 (by kernel_rfl) rfl #[.agg #[.int .i64 x0_0, .int .i64 x0_1, .int .i64 x0_2, .slice At0 x0_3.length ct0], .agg #[.int .i64 x1_0, .int .i64 x1_1, .int .i64 x1_2, .slice At1 x1_3.length ct1], .slice At2 x2_0.length ct2] (by rfl) rfl rfl (by simp only [List.map_toArray, List.map_cons, List.map_nil]; rfl) ?_
      with_reducible refine (impl_PatchImage.calls k x0_0 x0_1 x0_2 At0 ct0 x0_3 x1_0 x1_1 x1_2 At1 ct1 x1_3 At2 ct2 x2_0 v0 v1 v2 v3 vok _ HT_0.out HL_0.out HT_1.out HL_1.out HT_2.out HL_2.out HIM.out).mono ?_
      rintro e w61 ⟨vw_, rfl, hr_, hb_⟩
      refine ⟨_, rfl, ?_⟩
      have HZp_ := HZh
      have HBp_ := HB
      replace HB := Aside0.mk (below_then HB.out HB.out.size hb_)
      replace Kgb0 := Aside0.mk (blk_below Kgb0.out hb_)
      replace Kgb1 := Aside0.mk (blk_below Kgb1.out hb_)
      replace Kgw := Aside0.mk (blk_below Kgw.out hb_)
      replace Kgg := Aside0.mk (blk_below Kgg.out hb_)
      replace Rw := Aside0.mk (Kd.R_below Rw.out hb_)
      replace Rg := Aside0.mk (Kd.R_below Rg.out hb_)
      replace HT_0 := Aside0.mk (Kd.C_below HT_0.out hb_)
      replace HT_1 := Aside0.mk (Kd.C_below HT_1.out hb_)
      replace HT_2 := Aside0.mk (Kd.C_below HT_2.out hb_)
      replace KA_ := Aside0.mk (blk_below KA_.out hb_)
      replace HZh := Aside0.mk (Nat.le_trans HZh.out hb_.size)
      have Rh := Aside0.mk (Kd.R_lower (Kd.R_mono (Kd.R_bound hr_) (fun k_ hk_ => (⟨Nat.le_trans HZp_.out hk_.2.1, hk_.2.2.1⟩ : w41.heap.size ≤ k_ ∧ k_ < w61.heap.size))) HBp_.out.size)
      clear hr_ hb_ HZp_ HBp_
      refine hK.out _ _ ⟨((blk_cell Kgb0.out 0).trans rfl), ((blk_cell Kgb0.out 1).trans rfl), ((blk_cell Kgb0.out 2).trans rfl), ((blk_cell Kgb0.out 3).trans rfl), ((blk_cell Kgb1.out 0).trans rfl), ((blk_cell Kgb1.out 1).trans rfl), ((blk_cell Kgb1.out 2).trans rfl), ((blk_cell Kgb1.out 3).trans rfl)⟩ (fun hHeld => ?_)
      clear hK K
      refine norm_ (a' := ?_) ?_ ?_
      rotate_left
      · show Act.put _ (some 122) _ = _
        simp only [Act.put, List.setIfInBounds_toArray, List.set_cons_zero, List.set_cons_succ, i64_w, i32_w]
        rfl
      refine pure_ (i := 7) (N := some 115) (v := ?_) (a' := ?_) #[true, true, true, true, true, true, true, true, false, false, true, false, false] rfl rfl (by kernel_rfl) (fun _ _ _ h => h) (Or.inl ⟨by rfl, ?_⟩) ?_ ?_
      rotate_left
      · intro w'
        go_simp
        with_reducible rfl
      rotate_left
      · simp only [Act.put, List.setIfInBounds_toArray, List.set_cons_zero, List.set_cons_succ, i64_w, i32_w]
        rfl
      refine pure_ (i := 8) (N := some 123) (v := ?_) (a' := ?_) #[true, true, true, true, true, true, true, true, true, false, true, false, false] rfl rfl (by kernel_rfl) (fun _ _ _ h => h) (Or.inl ⟨by rfl, ?_⟩) ?_ ?_
      rotate_left
      · intro w'
        go_simp
        with_reducible rfl
      rotate_left
      · simp only [Act.put, List.setIfInBounds_toArray, List.set_cons_zero, List.set_cons_succ, i64_w, i32_w]
        rfl
      refine pure_ (i := 9) (N := some 124) (v := ?_) (a' := ?_) #[true, true, true, true, true, true, true, true, true, true, true, false, false] rfl rfl (by kernel_rfl) (fun _ _ _ h => h) (Or.inl ⟨by rfl, ?_⟩) ?_ ?_
      rotate_left
      · intro w'
        go_simp
        with_reducible rfl
      rotate_left
      · simp only [Act.put, List.setIfInBounds_toArray, List.set_cons_zero, List.set_cons_succ, i64_w, i32_w]
        rfl
      exact norm_ (by first | (simp only [putAll, Act.put, List.setIfInBounds_toArray, List.set_cons_zero, List.set_cons_succ]; done) | (simp only [putAll, Act.put, List.setIfInBounds_toArray, List.set_cons_zero, List.set_cons_succ]; rfl)) (hCont (.slice At0 x0_3.length ct0, .slice At1 x1_3.length ct1, .slice At2 x2_0.length ct2, vw_, w41.drew.heap.size) _ ⟨Rh.out, KA_.out, GA_.out, Kgb0.out, Kgb1.out, Kgw.out, Kgg.out, Rw.out, Rg.out, HB.out, HZh.out⟩)
  rintro ⟨vt0_h, vt1_h, vt2_h, vvh, gh⟩ w42 ⟨hR_, hA_, hg_, hk_0, hk_1, hk_2, hk_3, hr_0, hr_1, hB_, hZ_⟩
  dsimp only at hR_ hA_ hg_
  obtain ⟨Ah, ch, ev_⟩ := Kd.R_slice hR_
  subst ev_
  have Rh := Aside0.mk hR_
  have Kgh := Aside0.mk hA_
  have Zgh := Aside0.mk hg_
  have HB := Aside0.mk hB_
  have HZh := Aside0.mk hZ_
  have Kgb0 := Aside0.mk hk_0
  have Kgb1 := Aside0.mk hk_1
  have Kgw := Aside0.mk hk_2
  have Kgg := Aside0.mk hk_3
  have Rw := Aside0.mk hr_0
  have Rg := Aside0.mk hr_1
  clear hR_ hA_ hg_ hB_ hZ_ hk_0 hk_1 hk_2 hk_3 hr_0 hr_1
  have hHeld : w42.cell? ⟨gb0, 0, none⟩ = some (.int .i64 a0_0) ∧ w42.cell? ⟨gb0, 1, none⟩ = some (.int .i64 a0_1) ∧ w42.cell? ⟨gb0, 2, none⟩ = some (.int .i64 a0_2) ∧ w42.cell? ⟨gb0, 3, none⟩ = some (.slice A0_3 l0_3.length c0_3) ∧ w42.cell? ⟨gb1, 0, none⟩ = some (.int .i64 a1_0) ∧ w42.cell? ⟨gb1, 1, none⟩ = some (.int .i64 a1_1) ∧ w42.cell? ⟨gb1, 2, none⟩ = some (.int .i64 a1_2) ∧ w42.cell? ⟨gb1, 3, none⟩ = some (.slice A1_3 l1_3.length c1_3) := ⟨((blk_cell Kgb0.out 0).trans rfl), ((blk_cell Kgb0.out 1).trans rfl), ((blk_cell Kgb0.out 2).trans rfl), ((blk_cell Kgb0.out 3).trans rfl), ((blk_cell Kgb1.out 0).trans rfl), ((blk_cell Kgb1.out 1).trans rfl), ((blk_cell Kgb1.out 2).trans rfl), ((blk_cell Kgb1.out 3).trans rfl)⟩
  refine norm_ (a' := ?_) ?_ ?_
  rotate_left
  · simp only [putAll, Act.put, List.setIfInBounds_toArray, List.set_cons_zero, List.set_cons_succ]
    rfl
  refine one_ (i := 11) (N := none) #[true, true, true, true, true, true, true, true, true, true, true, true, false] rfl rfl (by kernel_rfl) (by decide) (fun K hK => ?_)
  have qgh0 := blk_frozen Kgh.out 0
  have qgh1 := blk_frozen Kgh.out 1
  have qgh2 := blk_frozen Kgh.out 2
  have qgh3 := blk_frozen Kgh.out 3
  have cgh0 := (blk_cell Kgh.out 0).trans rfl
  have cgh1 := (blk_cell Kgh.out 1).trans rfl
  have cgh2 := (blk_cell Kgh.out 2).trans rfl
  have cgh3 := (blk_cell Kgh.out 3).trans rfl
  refine skip_ (w1 := ?_) (by rfl) rfl ?_ ?_
  rotate_left
  · go_simp
    rfl
  clear qgh0 cgh0 qgh1 cgh1 qgh2 cgh2 qgh3 cgh3
  have Kgb0_ := Aside0.mk (blk_far (p := ⟨gh, 3, none⟩) (blk_far (p := ⟨gh, 2, none⟩) (blk_far (p := ⟨gh, 1, none⟩) (blk_far (p := ⟨gh, 0, none⟩) Kgb0.out (show gb0 ≠ gh by have := Zgh.out; have := QKgb0.out; omega) (.int .i64 v0)) (show gb0 ≠ gh by have := Zgh.out; have := QKgb0.out; omega) (.int .i64 v1)) (show gb0 ≠ gh by have := Zgh.out; have := QKgb0.out; omega) (.int .i64 v2)) (show gb0 ≠ gh by have := Zgh.out; have := QKgb0.out; omega) (.slice Ah v3.length ch))
  have Kgb1_ := Aside0.mk (blk_far (p := ⟨gh, 3, none⟩) (blk_far (p := ⟨gh, 2, none⟩) (blk_far (p := ⟨gh, 1, none⟩) (blk_far (p := ⟨gh, 0, none⟩) Kgb1.out (show gb1 ≠ gh by have := Zgh.out; have := QKgb1.out; omega) (.int .i64 v0)) (show gb1 ≠ gh by have := Zgh.out; have := QKgb1.out; omega) (.int .i64 v1)) (show gb1 ≠ gh by have := Zgh.out; have := QKgb1.out; omega) (.int .i64 v2)) (show gb1 ≠ gh by have := Zgh.out; have := QKgb1.out; omega) (.slice Ah v3.length ch))
  have Kgw_ := Aside0.mk (blk_far (p := ⟨gh, 3, none⟩) (blk_far (p := ⟨gh, 2, none⟩) (blk_far (p := ⟨gh, 1, none⟩) (blk_far (p := ⟨gh, 0, none⟩) Kgw.out (show gw ≠ gh by have := Zgh.out; have := QKgw.out; omega) (.int .i64 v0)) (show gw ≠ gh by have := Zgh.out; have := QKgw.out; omega) (.int .i64 v1)) (show gw ≠ gh by have := Zgh.out; have := QKgw.out; omega) (.int .i64 v2)) (show gw ≠ gh by have := Zgh.out; have := QKgw.out; omega) (.slice Ah v3.length ch))
  have Kgg_ := Aside0.mk (blk_far (p := ⟨gh, 3, none⟩) (blk_far (p := ⟨gh, 2, none⟩) (blk_far (p := ⟨gh, 1, none⟩) (blk_far (p := ⟨gh, 0, none⟩) Kgg.out (show gg ≠ gh by have := Zgh.out; have := QKgg.out; omega) (.int .i64 v0)) (show gg ≠ gh by have := Zgh.out; have := QKgg.out; omega) (.int .i64 v1)) (show gg ≠ gh by have := Zgh.out; have := QKgg.out; omega) (.int .i64 v2)) (show gg ≠ gh by have := Zgh.out; have := QKgg.out; omega) (.slice Ah v3.length ch))
  refine hK.out _ _ ⟨((blk_cell Kgb0_.out 0).trans rfl), ((blk_cell Kgb0_.out 1).trans rfl), ((blk_cell Kgb0_.out 2).trans rfl), ((blk_cell Kgb0_.out 3).trans rfl), ((blk_cell Kgb1_.out 0).trans rfl), ((blk_cell Kgb1_.out 1).trans rfl), ((blk_cell Kgb1_.out 2).trans rfl), ((blk_cell Kgb1_.out 3).trans rfl)⟩ (fun hHeld => ?_)
  clear hK K
  refine pure_ (i := 12) (N := some 19) (v := ?_) (a' := ?_) #[true, true, true, true, true, true, true, true, true, true, true, true, true] rfl rfl (by kernel_rfl) (fun _ _ _ h => h) (Or.inl ⟨by rfl, ?_⟩) ?_ ?_
  rotate_left
  · intro w'
    go_simp
    with_reducible rfl
  rotate_left
  · simp only [Act.put, List.setIfInBounds_toArray, List.set_cons_zero, List.set_cons_succ, i64_w, i32_w]
    rfl
  refine done_ (by kernel_rfl) ?_
  obtain ⟨w62, hw62⟩ : ∃ W, W = ((((w42.setCell ⟨gh, 0, none⟩ (.int .i64 v0)).setCell ⟨gh, 1, none⟩ (.int .i64 v1)).setCell ⟨gh, 2, none⟩ (.int .i64 v2)).setCell ⟨gh, 3, none⟩ (.slice Ah v3.length ch)) := ⟨_, rfl⟩
  rw [← hw62]
  have HGgh := Aside0.mk (Nat.le_trans HB.out.size (Nat.le_refl _))
  replace HB := Aside0.mk (show Below w.heap.size w w62 from by rw [hw62]; exact (below_set (below_set (below_set (below_set HB.out (Nat.le_trans HBSh.out Zgh.out)) (Nat.le_trans HBSh.out Zgh.out)) (Nat.le_trans HBSh.out Zgh.out)) (Nat.le_trans HBSh.out Zgh.out)))
  have NZh := Aside0.mk (show w41.heap.size ≤ w62.heap.size from by rw [hw62]; exact Nat.le_trans HZh.out (by simp [World.setCell]))
  have ZLgh := Aside0.mk (show gh < w62.heap.size from by rw [hw62]; exact Nat.lt_of_lt_of_le (blk_lt Kgh.out) (by simp [World.setCell]))
  replace Rh := Aside0.mk (show Kd.R (Kd.int .i64) 3 w62 w.heap.size (fun k_ => w41.heap.size ≤ k_ ∧ k_ < w62.heap.size) (.slice Ah v3.length ch) v3 from by rw [hw62]; exact Kd.R_mono (Kd.R_far (Kd.R_far (Kd.R_far (Kd.R_far (Kd.R_types Rh.out Kgh.out (by decide)) (fun k hk => hk.2) _) (fun k hk => hk.2) _) (fun k hk => hk.2) _) (fun k hk => hk.2) _) (fun k hk => ⟨hk.1.1, Nat.lt_of_lt_of_le hk.1.2 (by simp [World.setCell])⟩))
  replace Rw := Aside0.mk (show Kd.R (Kd.int .i64) 3 w62 w.heap.size (fun k_ => wz2.heap.size ≤ k_ ∧ k_ < w21.heap.size) (.slice Aw v3.length cw) v3 from by rw [hw62]; exact Kd.R_mono (Kd.R_far (Kd.R_far (Kd.R_far (Kd.R_far (Kd.R_types Rw.out Kgh.out (by decide)) (fun k hk => hk.2) _) (fun k hk => hk.2) _) (fun k hk => hk.2) _) (fun k hk => hk.2) _) (fun k hk => hk.1))
  replace Rg := Aside0.mk (show Kd.R (Kd.int .i64) 3 w62 w.heap.size (fun k_ => 0 ≤ k_ ∧ k_ < w40.heap.size) (.slice Ag u.length cg) u from by rw [hw62]; exact Kd.R_mono (Kd.R_far (Kd.R_far (Kd.R_far (Kd.R_far (Kd.R_types Rg.out Kgh.out (by decide)) (fun k hk => hk.2) _) (fun k hk => hk.2) _) (fun k hk => hk.2) _) (fun k hk => hk.2) _) (fun k hk => hk.1))
  replace Kgb0 := Aside0.mk (show w62.heap[gb0]? = some (.cells #[.int .i64 a0_0, .int .i64 a0_1, .int .i64 a0_2, .slice A0_3 l0_3.length c0_3] 24 (0, 0)) from by rw [hw62]; exact Kgb0_.out)
  replace Kgb1 := Aside0.mk (show w62.heap[gb1]? = some (.cells #[.int .i64 a1_0, .int .i64 a1_1, .int .i64 a1_2, .slice A1_3 l1_3.length c1_3] 24 (0, 0)) from by rw [hw62]; exact Kgb1_.out)
  replace Kgw := Aside0.mk (show w62.heap[gw]? = some (.cells #[.int .i64 v0, .int .i64 v1, .int .i64 v2, .slice Aw v3.length cw] 27 (0, 0)) from by rw [hw62]; exact Kgw_.out)
  replace Kgg := Aside0.mk (show w62.heap[gg]? = some (.cells #[.int .i64 v0, .int .i64 v1, .int .i64 v2, .slice Ag u.length cg] 27 (0, 0)) from by rw [hw62]; exact Kgg_.out)
  replace Kgh := Aside0.mk (show w62.heap[gh]? = some (.cells #[.int .i64 v0, .int .i64 v1, .int .i64 v2, .slice Ah v3.length ch] 27 (0, 0)) from by rw [hw62]; refine blk_put (cs := #[.int .i64 v0, .int .i64 v1, .int .i64 v2, .slice none 0 0]) ?_ 3 _ rfl; refine blk_put (cs := #[.int .i64 v0, .int .i64 v1, .int .i64 0, .slice none 0 0]) ?_ 2 _ rfl; refine blk_put (cs := #[.int .i64 v0, .int .i64 0, .int .i64 0, .slice none 0 0]) ?_ 1 _ rfl; refine blk_put (cs := #[.int .i64 0, .int .i64 0, .int .i64 0, .slice none 0 0]) ?_ 0 _ rfl; exact Kgh.out)
  clear hw62
  have cghw62_0 : w62.cell? ⟨gh, 0, none⟩ = some (.int .i64 v0) := (blk_cell Kgh.out 0).trans rfl; have cghw62_1 : w62.cell? ⟨gh, 1, none⟩ = some (.int .i64 v1) := (blk_cell Kgh.out 1).trans rfl; have cghw62_2 : w62.cell? ⟨gh, 2, none⟩ = some (.int .i64 v2) := (blk_cell Kgh.out 2).trans rfl; have cghw62_3 : w62.cell? ⟨gh, 3, none⟩ = some (.slice Ah v3.length ch) := (blk_cell Kgh.out 3).trans rfl
  have cgww62_0 : w62.cell? ⟨gw, 0, none⟩ = some (.int .i64 v0) := (blk_cell Kgw.out 0).trans rfl; have cgww62_1 : w62.cell? ⟨gw, 1, none⟩ = some (.int .i64 v1) := (blk_cell Kgw.out 1).trans rfl; have cgww62_2 : w62.cell? ⟨gw, 2, none⟩ = some (.int .i64 v2) := (blk_cell Kgw.out 2).trans rfl; have cgww62_3 : w62.cell? ⟨gw, 3, none⟩ = some (.slice Aw v3.length cw) := (blk_cell Kgw.out 3).trans rfl
  go_upto_region 41 with (first
    | (go_at_call 24; (with_reducible refine (laws_eqImage.calls k v0 v1 v2 Ah ch v3 v0 v1 v2 Aw cw v3 true w62 (Kd.R_reads' Rh.out).2.2 (Kd.R_reads' Rh.out).2.1 (Kd.R_reads' Rw.out).2.2 (Kd.R_reads' Rw.out).2.1 HEV.out rfl).mono ?_); rintro e w63 ⟨rfl, hb⟩; replace HB := Aside0.mk (below_then HB.out HB.out.size hb); replace Kgb0 := Aside0.mk (blk_below Kgb0.out hb); replace Kgb1 := Aside0.mk (blk_below Kgb1.out hb); replace Kgw := Aside0.mk (blk_below Kgw.out hb); replace Kgg := Aside0.mk (blk_below Kgg.out hb); replace Kgh := Aside0.mk (blk_below Kgh.out hb); replace Rw := Aside0.mk (Kd.R_below Rw.out hb); replace Rg := Aside0.mk (Kd.R_below Rg.out hb); replace Rh := Aside0.mk (Kd.R_below Rh.out hb); have Zw63 := Aside0.mk hb.size; clear hb))
  try clear cghw62_0 cghw62_1 cghw62_2 cghw62_3 cgww62_0 cgww62_1 cgww62_2 cgww62_3
  have cggw63_0 : w63.cell? ⟨gg, 0, none⟩ = some (.int .i64 v0) := (blk_cell Kgg.out 0).trans rfl; have cggw63_1 : w63.cell? ⟨gg, 1, none⟩ = some (.int .i64 v1) := (blk_cell Kgg.out 1).trans rfl; have cggw63_2 : w63.cell? ⟨gg, 2, none⟩ = some (.int .i64 v2) := (blk_cell Kgg.out 2).trans rfl; have cggw63_3 : w63.cell? ⟨gg, 3, none⟩ = some (.slice Ag u.length cg) := (blk_cell Kgg.out 3).trans rfl
  go_wp2_with (first
    | (go_at_call 59; (with_reducible refine (laws_heldImage.calls k v0 v1 v2 Ag cg u 1 m w63 (Kd.R_reads' Rg.out).2.2 (Kd.R_reads' Rg.out).2.1 HHR.out).mono ?_); rintro e w64 ⟨rfl, hb⟩; replace HB := Aside0.mk (below_then HB.out HB.out.size hb); replace Kgb0 := Aside0.mk (blk_below Kgb0.out hb); replace Kgb1 := Aside0.mk (blk_below Kgb1.out hb); replace Kgw := Aside0.mk (blk_below Kgw.out hb); replace Kgg := Aside0.mk (blk_below Kgg.out hb); replace Kgh := Aside0.mk (blk_below Kgh.out hb); replace Rw := Aside0.mk (Kd.R_below Rw.out hb); replace Rg := Aside0.mk (Kd.R_below Rg.out hb); replace Rh := Aside0.mk (Kd.R_below Rh.out hb); have Zw64 := Aside0.mk hb.size; clear hb))
  go_ret
  exact ⟨rfl, HB.out⟩
theorem laws_FnExactPatchImage.calls (k : Nat) (a0_0 : Int) (a0_1 : Int) (a0_2 : Int) (A0_3 : Option Addr) (c0_3 : Nat) (l0_3 : List Int) (a1_0 : Int) (a1_1 : Int) (a1_2 : Int) (A1_3 : Option Addr) (c1_3 : Nat) (l1_3 : List Int) (A2_0 : Option Addr) (c2_0 : Nat) (l2_0 : List S137) (r : Bool) (w : World) (hr0 : Kd.C (Kd.int .i64) w A0_3 l0_3.length l0_3) (hc0 : l0_3.length ≤ c0_3) (hr1 : Kd.C (Kd.int .i64) w A1_3 l1_3.length l1_3) (hc1 : l1_3.length ≤ c1_3) (hr2 : Kd.C k137 w A2_0 l2_0.length l2_0) (hc2 : l2_0.length ≤ c2_0) (h : laws_FnExactPatchImage.f k a0_0 a0_1 a0_2 l0_3 a1_0 a1_1 a1_2 l1_3 l2_0 = some r) : Calls Try.prog 15 #[.agg #[.int .i64 a0_0, .int .i64 a0_1, .int .i64 a0_2, .slice A0_3 l0_3.length c0_3], .agg #[.int .i64 a1_0, .int .i64 a1_1, .int .i64 a1_2, .slice A1_3 l1_3.length c1_3], .slice A2_0 l2_0.length c2_0] w fun e w' => e = .returned (.bool r) ∧ Below w.heap.size w w' := by
  unfold laws_FnExactPatchImage.f at h
  by_cases hg : laws_FnExactPatchImage.Goes k a0_0 a0_1 a0_2 l0_3 a1_0 a1_1 a1_2 l1_3 l2_0
  · rw [if_pos hg] at h
    obtain rfl : true = r := Option.some.inj h
    clear h
    unfold laws_FnExactPatchImage.Goes at hg
    rcases hg with ⟨s0, hs0, hn0⟩ | ⟨s0, s1, hs0, hn0, hs1, hn1⟩ | ⟨s0, s1, s2, hs0, hn0, hs1, hn1, hs2, hn2⟩ | ⟨s0, s1, s2, x0_0, x0_1, x0_2, x0_3, x1_0, x1_1, x1_2, x1_3, x2_0, v0, v1, v2, v3, vok, k0, y0, k1, y1, k2, y2, m, u, HS0, HN0, HS1, HN1, HS2, HN2, HT0, HT1, HT2, HSP, HIM, HEV, HE0, HE1, HE2, HM0, HM1, HM2, HKN, HMR, HHR, HMN⟩
    · exact laws_FnExactPatchImage.big0 k a0_0 a0_1 a0_2 A0_3 c0_3 l0_3 a1_0 a1_1 a1_2 A1_3 c1_3 l1_3 A2_0 c2_0 l2_0 w hr0 hc0 hr1 hc1 hr2 hc2 s0 hs0 hn0
    · exact laws_FnExactPatchImage.big1 k a0_0 a0_1 a0_2 A0_3 c0_3 l0_3 a1_0 a1_1 a1_2 A1_3 c1_3 l1_3 A2_0 c2_0 l2_0 w hr0 hc0 hr1 hc1 hr2 hc2 s0 s1 hs0 hn0 hs1 hn1
    · exact laws_FnExactPatchImage.big2 k a0_0 a0_1 a0_2 A0_3 c0_3 l0_3 a1_0 a1_1 a1_2 A1_3 c1_3 l1_3 A2_0 c2_0 l2_0 w hr0 hc0 hr1 hc1 hr2 hc2 s0 s1 s2 hs0 hn0 hs1 hn1 hs2 hn2
    · exact laws_FnExactPatchImage.way k a0_0 a0_1 a0_2 A0_3 c0_3 l0_3 a1_0 a1_1 a1_2 A1_3 c1_3 l1_3 A2_0 c2_0 l2_0 w hr0 hc0 hr1 hc1 hr2 hc2 s0 s1 s2 x0_0 x0_1 x0_2 x0_3 x1_0 x1_1 x1_2 x1_3 x2_0 v0 v1 v2 v3 vok k0 y0 k1 y1 k2 y2 m u HS0 HN0 HS1 HN1 HS2 HN2 HT0 HT1 HT2 HSP HIM HEV HE0 HE1 HE2 HM0 HM1 HM2 HKN HMR HHR HMN
  · rw [if_neg hg] at h; cases h
end Go.Proofs.Ytnofkbbcbpjhfaa.Q

/- What an argument's reading as data tells: numbers, bools, slices and structs of them, by their kinds. -/
namespace Go.Proofs.Ytnofkbbcbpjhfaa.Q
open Go.RowKit Go.Proofs.YtnofkbbcbpjhfaaW.PrintWords Go.Proofs.YtnofkbbcbpjhfaaW.PrintLast Go.Proofs.YtnofkbbcbpjhfaaW.PrintMore
attribute [local go_sem] max2_int min2_int max_two min_two max_three min_three max_four min_four
set_option linter.unusedVariables false
set_option linter.unusedSimpArgs false
open Go.ChangeShapes Go.WideShapes Go.Deep

/-- A number of 64 bits. -/
def I64 (n : Int) : Prop := -9223372036854775808 ≤ n ∧ n ≤ 9223372036854775807
theorem i64_of (n : Int) (h : (Lit.int .i64 n).wf = true) : I64 n := by
  simp only [Lit.wf, Bool.and_eq_true, decide_eq_true_eq] at h
  have e1 : IntKind.min .i64 = -9223372036854775808 := by decide
  have e2 : IntKind.max .i64 = 9223372036854775807 := by decide
  unfold I64
  omega
/-- Whatever reads at type t as data is a y of this kind, of which Q holds. -/
def Opens {α : Type} (P : Program) (t : TypeId) (d : Kd α) (Q : α → Prop) : Prop :=
  ∀ (H : Type) (enc : TypeId × Value → H) (w : World) (fuel : Nat) (cs : List Value) (x : DataW H × List MemPlace),
    DataW.trod enc P w 0 (fun _ => true) true fuel t cs = some x → ∃ y : α, d.K w y cs ∧ Q y
section
variable {P : Program} {t : TypeId} {α β : Type}
theorem opens_i64 (ht : P.underlying t = some (.int .i64)) : Opens P t (Kd.int .i64) I64 := by
  intro H enc w fuel cs x h
  obtain ⟨n, rfl, _, hw⟩ := DataW.trod_int ht h
  exact ⟨n, rfl, i64_of n hw⟩
theorem opens_bool (ht : P.underlying t = some .bool) : Opens P t Kd.bool (fun _ => True) := by
  intro H enc w fuel cs x h
  obtain ⟨b, rfl, _⟩ := DataW.trod_bool ht h
  exact ⟨b, rfl, trivial⟩
theorem opens_slice {e : TypeId} {d : Kd α} {Q : α → Prop} (ht : P.underlying t = some (.slice e)) (hc : P.cellsOf e = d.sz) (ho : Opens P e d Q) :
    Opens P t (Kd.slice e d) (fun l => ∀ x ∈ l, Q x) := by
  intro H enc w fuel cs x h
  rcases open_slice ht h with ⟨rfl, _⟩ | ⟨a, len, cap, m, n, D, Pl, rfl, _, hl, hm, hmm, _, hi⟩
  · exact ⟨[], ⟨none, 0, rfl, Nat.le_refl _, rfl, by simp, fun h0 => absurd h0 (by simp)⟩, fun x hx => absurd hx (by simp)⟩
  · have hmc : m = cap := by simpa using hmm
    subst hmc
    have each : ∀ i, i < len → ∃ y : α, (∃ c, c.length = d.sz ∧ d.K w y c ∧ ∀ j u, c[j]? = some u → w.cell? (a.add (i * d.sz + j)) = some u) ∧ Q y := by
      intro i hil
      obtain ⟨cs', hcs, htr⟩ := hi i (by omega)
      rw [hc] at hcs
      obtain ⟨_, hcl, hat⟩ := World.cells?_some hcs
      obtain ⟨y, hK, hQ⟩ := ho H enc w n cs' _ htr
      refine ⟨y, ⟨cs', hcl, hK, fun j u hu => ?_⟩, hQ⟩
      have hj : j < d.sz := by rw [← hcl]; exact (List.getElem?_eq_some_iff.1 hu).1
      rw [← Go.Deep.add_add, hat j hj, hu]
    have hY : ∃ ys : List α, ys.length = len ∧ ∀ i, i < len → ∃ y, ys[i]? = some y ∧ (∃ c, c.length = d.sz ∧ d.K w y c ∧ ∀ j u, c[j]? = some u → w.cell? (a.add (i * d.sz + j)) = some u) ∧ Q y := by
      have key : ∀ q, q ≤ len → ∃ ys : List α, ys.length = q ∧ ∀ i, i < q → ∃ y, ys[i]? = some y ∧ (∃ c, c.length = d.sz ∧ d.K w y c ∧ ∀ j u, c[j]? = some u → w.cell? (a.add (i * d.sz + j)) = some u) ∧ Q y := by
        intro q
        induction q with
        | zero => intro _; exact ⟨[], rfl, fun i hi' => absurd hi' (by omega)⟩
        | succ q ih =>
          intro hq
          obtain ⟨ys, hyl, hys⟩ := ih (by omega)
          obtain ⟨y, hy⟩ := each q (by omega)
          refine ⟨ys ++ [y], by simp [hyl], fun i hi' => ?_⟩
          by_cases e : i = q
          · subst e
            exact ⟨y, by rw [List.getElem?_append_right (by omega)]; simp [hyl], hy⟩
          · obtain ⟨z, hz, hz2⟩ := hys i (by omega)
            exact ⟨z, by rw [List.getElem?_append_left (by omega)]; exact hz, hz2⟩
      exact key len (Nat.le_refl _)
    obtain ⟨ys, hyl, hys⟩ := hY
    refine ⟨ys, ⟨some a, m, by rw [hyl], by omega, rfl, by rw [hyl]; simp only [maxLen] at hm; omega, fun _ => ⟨a, rfl, fun j p hj => ?_⟩⟩, fun x hx => ?_⟩
    · have hjl : j < len := by rw [← hyl]; exact (List.getElem?_eq_some_iff.1 hj).1
      obtain ⟨y, hy, hc2, _⟩ := hys j hjl
      rw [hy] at hj
      obtain rfl := Option.some.inj hj
      exact hc2
    · obtain ⟨j, hj, rfl⟩ := List.getElem_of_mem hx
      obtain ⟨y, hy, _, hq⟩ := hys j (by omega)
      rw [List.getElem?_eq_getElem hj] at hy
      obtain rfl := Option.some.inj hy
      exact hq
/-- Fields in line, from the cell 'off' on. -/
def OpensF (P : Program) (fs : List Field) (off : Nat) (d : Kd α) (Q : α → Prop) : Prop :=
  ∀ (H : Type) (enc : TypeId × Value → H) (w : World) (n : Nat) (cs : List Value), cs.length = off + d.sz →
    (∀ f ∈ fs, ∃ x, DataW.trod enc P w 0 (fun _ => true) true n f.type ((cs.drop f.offset).take (P.cellsOf f.type)) = some x) → ∃ y : α, d.K w y (cs.drop off) ∧ Q y
theorem opensF_one {f : Field} {off : Nat} {d : Kd α} {Q : α → Prop} (ho : f.offset = off) (hc : P.cellsOf f.type = d.sz) (h : Opens P f.type d Q) : OpensF P [f] off d Q := by
  intro H enc w n cs hl hf
  obtain ⟨x, hx⟩ := hf f (by simp)
  rw [ho, hc, List.take_of_length_le (by rw [List.length_drop]; omega)] at hx
  exact h H enc w n _ _ hx
theorem opensF_cons {f : Field} {fs : List Field} {off : Nat} {d : Kd α} {Q : α → Prop} {d' : Kd β} {Q' : β → Prop} (ho : f.offset = off) (hc : P.cellsOf f.type = d.sz) (h : Opens P f.type d Q) (h' : OpensF P fs (off + d.sz) d' Q') :
    OpensF P (f :: fs) off (Kd.pair d d') (fun p => Q p.1 ∧ Q' p.2) := by
  intro H enc w n cs hl hf
  have hl' : cs.length = off + (d.sz + d'.sz) := hl
  obtain ⟨x, hx⟩ := hf f (by simp)
  rw [ho, hc] at hx
  obtain ⟨y, hK, hQ⟩ := h H enc w n _ _ hx
  obtain ⟨y', hK', hQ'⟩ := h' H enc w n cs (by omega) (fun g hg => hf g (by simp [hg]))
  refine ⟨(y, y'), ⟨(cs.drop off).take d.sz, cs.drop (off + d.sz), ?_, hK, hK'⟩, hQ, hQ'⟩
  rw [← List.drop_drop, List.take_append_drop]
theorem opens_struct {fs : Array Field} {d : Kd α} {Q : α → Prop} (ht : P.underlying t = some (.struct fs)) (hc : P.cellsOf t = d.sz) (h : OpensF P fs.toList 0 d Q) : Opens P t d Q := by
  intro H enc w fuel cs x hx
  obtain ⟨xs, n, _, _, hcl, hxl, hg⟩ := DataW.trod_struct ht hx
  obtain ⟨y, hK, hQ⟩ := h H enc w n cs (by omega) (fun f hf => by
    obtain ⟨i, hi, rfl⟩ := List.getElem_of_mem hf
    have hi' : i < fs.size := by simpa using hi
    have h1 := hg i (fs.toList[i]) (by simp [hi'])
    rw [List.getElem?_eq_getElem (by omega)] at h1
    exact ⟨_, h1⟩)
  exact ⟨y, by simpa using hK, hQ⟩
theorem opens_iso {d : Kd α} {Q : α → Prop} (f : β → α) (g : α → β) (hfg : ∀ a, f (g a) = a) (h : Opens P t d Q) : Opens P t (Kd.iso d f) (fun b => Q (f b)) := by
  intro H enc w fuel cs x hx
  obtain ⟨y, hK, hQ⟩ := h H enc w fuel cs x hx
  refine ⟨g y, ?_, ?_⟩
  · show d.K w (f (g y)) cs
    rw [hfg]; exact hK
  · show Q (f (g y))
    rw [hfg]; exact hQ
end
end Go.Proofs.Ytnofkbbcbpjhfaa.Q

/- What is known of structs that came in. -/
namespace Go.Proofs.Ytnofkbbcbpjhfaa.Q
open Go.RowKit Go.Proofs.YtnofkbbcbpjhfaaW.PrintWords Go.Proofs.YtnofkbbcbpjhfaaW.PrintLast Go.Proofs.YtnofkbbcbpjhfaaW.PrintMore
attribute [local go_sem] max2_int min2_int max_two min_two max_three min_three max_four min_four
set_option linter.unusedVariables false
set_option linter.unusedSimpArgs false
def wf24 (x : S24) : Prop := I64 x.f0 ∧ I64 x.f1 ∧ I64 x.f2 ∧ (∀ y ∈ x.f3, I64 y)
theorem o24 : Opens Try.prog 24 k24 wf24 :=
  opens_iso (fun x : S24 => (x.f0, x.f1, x.f2, x.f3)) (fun p => (⟨p.1, p.2.1, p.2.2.1, p.2.2.2⟩ : S24)) (fun _ => rfl) (opens_struct Try.underlying24 (by kernel_rfl) (opensF_cons rfl (by kernel_rfl) (opens_i64 Try.underlying3) (opensF_cons rfl (by kernel_rfl) (opens_i64 Try.underlying3) (opensF_cons rfl (by kernel_rfl) (opens_i64 Try.underlying3) (opensF_one rfl (by kernel_rfl) (opens_slice Try.underlying22 (by kernel_rfl) (opens_i64 Try.underlying3)))))))
def wf51 (x : S51) : Prop := wf24 x.f0 ∧ I64 x.f1 ∧ I64 x.f2 ∧ I64 x.f3 ∧ I64 x.f4 ∧ True
theorem o51 : Opens Try.prog 51 k51 wf51 :=
  opens_iso (fun x : S51 => (x.f0, x.f1, x.f2, x.f3, x.f4, x.f5)) (fun p => (⟨p.1, p.2.1, p.2.2.1, p.2.2.2.1, p.2.2.2.2.1, p.2.2.2.2.2⟩ : S51)) (fun _ => rfl) (opens_struct Try.underlying51 (by kernel_rfl) (opensF_cons rfl (by kernel_rfl) o24 (opensF_cons rfl (by kernel_rfl) (opens_i64 Try.underlying3) (opensF_cons rfl (by kernel_rfl) (opens_i64 Try.underlying3) (opensF_cons rfl (by kernel_rfl) (opens_i64 Try.underlying3) (opensF_cons rfl (by kernel_rfl) (opens_i64 Try.underlying3) (opensF_one rfl (by kernel_rfl) (opens_bool Try.underlying4))))))))
def wf137 (x : S137) : Prop := I64 x.f0 ∧ I64 x.f1 ∧ I64 x.f2 ∧ I64 x.f3
theorem o137 : Opens Try.prog 137 k137 wf137 :=
  opens_iso (fun x : S137 => (x.f0, x.f1, x.f2, x.f3)) (fun p => (⟨p.1, p.2.1, p.2.2.1, p.2.2.2⟩ : S137)) (fun _ => rfl) (opens_struct Try.underlying137 (by kernel_rfl) (opensF_cons rfl (by kernel_rfl) (opens_i64 Try.underlying3) (opensF_cons rfl (by kernel_rfl) (opens_i64 Try.underlying3) (opensF_cons rfl (by kernel_rfl) (opens_i64 Try.underlying3) (opensF_one rfl (by kernel_rfl) (opens_i64 Try.underlying3))))))

/- The statement over plain lists and numbers that is left of the law FnExactPatchImage. -/
def laws_FnExactPatchImage.Pure : Prop := ∀ (a0_0 : Int) (a0_1 : Int) (a0_2 : Int) (l0_3 : List Int) (a1_0 : Int) (a1_1 : Int) (a1_2 : Int) (l1_3 : List Int) (l2 : List (S137)), I64 a0_0 → I64 a0_1 → I64 a0_2 → (∀ y ∈ l0_3, I64 y) → l0_3.length ≤ 9223372036854775807 → I64 a1_0 → I64 a1_1 → I64 a1_2 → (∀ y ∈ l1_3, I64 y) → l1_3.length ≤ 9223372036854775807 → (∀ y ∈ l2, wf137 y) → l2.length ≤ 9223372036854775807 → ∃ k, laws_FnExactPatchImage.f k a0_0 a0_1 a0_2 l0_3 a1_0 a1_1 a1_2 l1_3 l2 = some true
end Go.Proofs.Ytnofkbbcbpjhfaa.Q

/- A pixel's numbers read out of an image that is valid. -/
namespace Go.Proofs.Ytnofkbbcbpjhfaa.Q
open Go.RowKit Go.Proofs.YtnofkbbcbpjhfaaW.PrintWords Go.Proofs.YtnofkbbcbpjhfaaW.PrintLast Go.Proofs.YtnofkbbcbpjhfaaW.PrintMore
attribute [local go_sem] max2_int min2_int max_two min_two max_three min_three max_four min_four
set_option linter.unusedVariables false
set_option linter.unusedSimpArgs false
open Go.Proofs.Ytnofkbbcbpjhfaa.Pure

def pxAt (a p : Int) (d : List Int) (x y : Nat) : List Int := pixT d (pixJ a p x y) p
end Go.Proofs.Ytnofkbbcbpjhfaa.Q

/- Images as pixels: lists of numbers cut into equal parts. -/
namespace Go.Proofs.Ytnofkbbcbpjhfaa.Pure
open Go.RowKit Go.Proofs.Ytnofkbbcbpjhfaa.Q Go.Proofs.YtnofkbbcbpjhfaaW.PrintWords Go.Proofs.YtnofkbbcbpjhfaaW.PrintLast Go.Proofs.YtnofkbbcbpjhfaaW.PrintMore
set_option linter.unusedVariables false
set_option linter.unusedSimpArgs false

/-- part i of a list that is cut into parts of n -/
def nx (n : Nat) (d : List Int) (i : Nat) : List Int := (d.drop (i * n)).take n
theorem nx_length {n m : Nat} {d : List Int} (hd : d.length = m * n) {i : Nat} (hi : i < m) : (nx n d i).length = n := by
  unfold nx
  have h : (i + 1) * n ≤ m * n := Nat.mul_le_mul_right n hi
  rw [Nat.add_mul, Nat.one_mul] at h
  rw [List.length_take, List.length_drop, hd]
  omega
theorem fm_length (f : Nat → List Int) (n : Nat) : ∀ m, (∀ i, i < m → (f i).length = n) → ((List.range m).flatMap f).length = m * n := by
  intro m
  induction m with
  | zero => intro _; simp
  | succ m ih =>
    intro h
    rw [List.range_succ, List.flatMap_append, List.length_append, ih (fun i hi => h i (by omega))]
    simp [h m (by omega), Nat.add_mul]
theorem fm_get (f : Nat → List Int) (n : Nat) : ∀ m, (∀ i, i < m → (f i).length = n) → ∀ i, i < m → nx n ((List.range m).flatMap f) i = f i := by
  intro m
  induction m with
  | zero => intro _ i hi; omega
  | succ m ih =>
    intro h i hi
    have hl := fm_length f n m (fun i hi => h i (by omega))
    rw [List.range_succ, List.flatMap_append]
    unfold nx
    by_cases c : i < m
    · have h1 : (i + 1) * n ≤ m * n := Nat.mul_le_mul_right n c
      rw [Nat.add_mul, Nat.one_mul] at h1
      rw [List.drop_append_of_le_length (by omega), List.take_append_of_le_length (by rw [List.length_drop]; omega)]
      exact ih (fun i hi => h i (by omega)) i c
    · have : i = m := by omega
      subst this
      rw [← hl, List.drop_left]
      simp only [List.flatMap_cons, List.flatMap_nil, List.append_nil]
      exact List.take_of_length_le (by rw [h i (by omega)]; exact Nat.le_refl _)
theorem fm_cut (n : Nat) : ∀ (m : Nat) (d : List Int), d.length = m * n → (List.range m).flatMap (nx n d) = d := by
  intro m
  induction m with
  | zero => intro d hd; simp at hd; simp [hd]
  | succ m ih =>
    intro d hd
    rw [Nat.add_mul, Nat.one_mul] at hd
    have h1 : (List.range m).flatMap (nx n d) = (List.range m).flatMap (nx n (d.take (m * n))) := by
      rw [List.flatMap_def, List.flatMap_def]
      congr 1
      refine List.map_congr_left (fun i hi => ?_)
      have hi' := List.mem_range.1 hi
      have h1 : (i + 1) * n ≤ m * n := Nat.mul_le_mul_right n hi'
      rw [Nat.add_mul, Nat.one_mul] at h1
      unfold nx
      rw [List.drop_take, List.take_take, Nat.min_eq_left (by omega)]
    rw [List.range_succ, List.flatMap_append, h1, ih _ (by rw [List.length_take]; omega)]
    simp only [List.flatMap_cons, List.flatMap_nil, List.append_nil]
    unfold nx
    rw [List.take_of_length_le (l := d.drop (m * n)) (by rw [List.length_drop]; omega), List.take_append_drop]
theorem ext_nx {n m : Nat} {d e : List Int} (hd : d.length = m * n) (he : e.length = m * n) (h : ∀ i, i < m → nx n d i = nx n e i) : d = e := by
  rw [← fm_cut n m d hd, ← fm_cut n m e he, List.flatMap_def, List.flatMap_def]
  congr 1
  exact List.map_congr_left (fun i hi => h i (List.mem_range.1 hi))
theorem rowD_length {px : Nat → Nat → List Int} {a n y : Nat} (h : ∀ x, x < a → (px x y).length = n) : (rowD px a y).length = a * n := fm_length _ n a h
theorem imgD_length {px : Nat → Nat → List Int} {a b n : Nat} (h : ∀ x y, x < a → y < b → (px x y).length = n) : (imgD px a b).length = (b * a) * n := by
  rw [Nat.mul_assoc]
  exact fm_length _ (a * n) b (fun y hy => rowD_length (fun x hx => h x y hx hy))
theorem nx_imgD {px : Nat → Nat → List Int} {a b n : Nat} (h : ∀ x y, x < a → y < b → (px x y).length = n) {x y : Nat} (hx : x < a) (hy : y < b) : nx n (imgD px a b) (y * a + x) = px x y := by
  have h1 := fm_get (rowD px a) (a * n) b (fun y hy => rowD_length (fun x hx => h x y hx hy)) y hy
  have h2 := fm_get (fun x => px x y) n a (fun x hx => h x y hx hy) x hx
  have h3 : (x + 1) * n ≤ a * n := Nat.mul_le_mul_right n hx
  rw [Nat.add_mul, Nat.one_mul] at h3
  show nx n ((List.range b).flatMap (rowD px a)) (y * a + x) = px x y
  rw [← h2]
  show _ = nx n (rowD px a y) x
  rw [← h1]
  unfold nx
  rw [List.drop_take, List.take_take, Nat.min_eq_left (by omega), List.drop_drop, Nat.add_mul, Nat.mul_assoc]
/-- where a pixel lies -/
theorem lin_lt {a b x y : Nat} (hx : x < a) (hy : y < b) : y * a + x < b * a := by
  have : (y + 1) * a ≤ b * a := Nat.mul_le_mul_right a hy
  rw [Nat.add_mul, Nat.one_mul] at this
  omega
theorem lin_ne {a x y x' y' : Nat} (hx : x < a) (hx' : x' < a) (h : y * a + x = y' * a + x') : x = x' ∧ y = y' := by
  have ha : 0 < a := by omega
  have e1 := congrArg (· % a) h
  have e2 := congrArg (· / a) h
  simp only [Nat.mul_comm _ a, Nat.mul_add_mod, Nat.mul_add_div ha, Nat.mod_eq_of_lt hx, Nat.mod_eq_of_lt hx', Nat.div_eq_of_lt hx, Nat.div_eq_of_lt hx', Nat.add_zero] at e1 e2
  exact ⟨e1, e2⟩
theorem lin_of {a b i : Nat} (h : i < b * a) : i % a < a ∧ i / a < b ∧ (i / a) * a + i % a = i := by
  have ha : 0 < a := by
    rcases Nat.eq_zero_or_pos a with rfl | h'
    · simp at h
    · exact h'
  refine ⟨Nat.mod_lt _ ha, (Nat.div_lt_iff_lt_mul ha).2 h, ?_⟩
  rw [Nat.mul_comm]; exact Nat.div_add_mod i a
theorem ext_img {n a b : Nat} {d e : List Int} (hd : d.length = (b * a) * n) (he : e.length = (b * a) * n) (h : ∀ x y, x < a → y < b → nx n d (y * a + x) = nx n e (y * a + x)) : d = e := by
  refine ext_nx hd he (fun i hi => ?_)
  obtain ⟨h1, h2, h3⟩ := lin_of hi
  rw [← h3]
  exact h _ _ h1 h2
/-- a part is overwritten -/
theorem nx_laid {n m : Nat} {d ys : List Int} (hd : d.length = m * n) (hy : ys.length = n) {j : Nat} (hj : j < m) {i : Nat} (hi : i < m) : nx n (laidOver d (j * n) ys) i = if i = j then ys else nx n d i := by
  have hj1 : (j + 1) * n ≤ m * n := Nat.mul_le_mul_right n hj
  have hi1 : (i + 1) * n ≤ m * n := Nat.mul_le_mul_right n hi
  rw [Nat.add_mul, Nat.one_mul] at hj1 hi1
  unfold nx laidOver
  have hlt : (d.take (j * n)).length = j * n := by rw [List.length_take]; omega
  by_cases c : i = j
  · subst c
    rw [if_pos rfl]
    have e1 : (d.take (i * n) ++ (ys ++ d.drop (i * n + ys.length))).drop (i * n) = ys ++ d.drop (i * n + ys.length) := by
      rw [List.drop_append, List.drop_eq_nil_of_le (by omega), hlt, Nat.sub_self, List.drop_zero, List.nil_append]
    rw [e1, ← hy, List.take_left]
  · rw [if_neg c]
    by_cases c2 : i < j
    · have h1 : (i + 1) * n ≤ j * n := Nat.mul_le_mul_right n c2
      rw [Nat.add_mul, Nat.one_mul] at h1
      rw [List.drop_append_of_le_length (by omega), List.take_append_of_le_length (by rw [List.length_drop]; omega), List.drop_take, List.take_take, Nat.min_eq_left (by omega)]
    · have h1 : (j + 1) * n ≤ i * n := Nat.mul_le_mul_right n (by omega)
      rw [Nat.add_mul, Nat.one_mul] at h1
      rw [← List.append_assoc, List.drop_append, List.drop_eq_nil_of_le (by rw [List.length_append, hlt, hy]; omega), List.nil_append, List.drop_drop, List.length_append, hlt, hy]
      congr 2
      omega
theorem nat_of {a b p : Int} {d : List Int} (hv : validI a b p d = true) : ∃ an bn pn : Nat, a = an ∧ b = bn ∧ p = pn ∧ 1 ≤ an ∧ an ≤ 16 ∧ 1 ≤ bn ∧ bn ≤ 16 ∧ 1 ≤ pn ∧ pn ≤ 4 ∧ d.length = (bn * an) * pn := by
  obtain ⟨hs, hl, _⟩ := (validI_iff a b p d).1 hv
  obtain ⟨an, rfl⟩ := Int.eq_ofNat_of_zero_le (show 0 ≤ a by omega)
  obtain ⟨bn, rfl⟩ := Int.eq_ofNat_of_zero_le (show 0 ≤ b by omega)
  obtain ⟨pn, rfl⟩ := Int.eq_ofNat_of_zero_le (show 0 ≤ p by omega)
  refine ⟨an, bn, pn, rfl, rfl, rfl, by omega, by omega, by omega, by omega, by omega, by omega, ?_⟩
  have : (d.length : Int) = ((an * bn * pn : Nat) : Int) := by rw [hl]; push_cast; rfl
  rw [Nat.mul_comm bn an]
  exact Int.ofNat.inj this
theorem small {an bn pn : Nat} (h1 : an ≤ 16) (h2 : bn ≤ 16) (h3 : pn ≤ 4) : (bn * an) * pn ≤ 1024 := by
  have := Nat.mul_le_mul (Nat.mul_le_mul h2 h1) h3
  omega
theorem pixJ_nat {an bn pn x y : Nat} (h1 : an ≤ 16) (h2 : bn ≤ 16) (h3 : pn ≤ 4) (hx : x < an) (hy : y < bn) : pixJ an pn x y = (((y * an + x) * pn : Nat) : Int) ∧ (y * an + x) * pn + pn ≤ (bn * an) * pn := by
  have hl := lin_lt hx hy
  have hm : (y * an + x + 1) * pn ≤ (bn * an) * pn := Nat.mul_le_mul_right pn hl
  rw [Nat.add_mul, Nat.one_mul] at hm
  have hs := small h1 h2 h3
  have hya : y * an ≤ 16 * 16 := Nat.mul_le_mul (by omega) (by omega)
  refine ⟨?_, hm⟩
  unfold pixJ
  have e1 : ((y : Int) * (an : Int)) = ((y * an : Nat) : Int) := by push_cast; rfl
  rw [e1, w64 (x := ((y * an : Nat) : Int)) (by omega) (by omega)]
  have e2 : ((y * an : Nat) : Int) + (x : Int) = ((y * an + x : Nat) : Int) := by push_cast; rfl
  rw [e2, w64 (x := ((y * an + x : Nat) : Int)) (by omega) (by omega)]
  have e3 : ((y * an + x : Nat) : Int) * (pn : Int) = (((y * an + x) * pn : Nat) : Int) := by push_cast; rfl
  rw [e3, w64 (by omega) (by omega)]
theorem pxAt_nat {an bn pn x y : Nat} (h1 : an ≤ 16) (h2 : bn ≤ 16) (h3 : pn ≤ 4) (hx : x < an) (hy : y < bn) (d : List Int) : pxAt an pn d x y = nx pn d (y * an + x) := by
  obtain ⟨hj, hm⟩ := pixJ_nat h1 h2 h3 hx hy
  have hs := small h1 h2 h3
  unfold pxAt pixT nx
  rw [hj, w64 (by omega) (by omega)]
  have : ((((y * an + x) * pn : Nat) : Int) + (pn : Int)).toNat = (y * an + x) * pn + pn := by omega
  rw [this, Int.toNat_natCast, List.drop_take]
  congr 1
  omega

/- What the reference does with pixels: reads, writes, parts and pastes. -/

/-- A loop whose rounds hand on a state: what follows it is left open. -/
theorem ev_run {σ ρ : Type} (n : Nat) (L : Nat → Nat → σ → Option ρ) (E : σ → Nat → Option ρ) (Inv : Nat → σ → Prop)
    (step : ∀ i s, i < n → Inv i s → ∃ s', Inv (i + 1) s' ∧ ∀ r, Ev (fun k => L k (i + 1) s') r → Ev (fun k => L k i s) r)
    (last : ∀ s, Inv n s → ∀ r, Ev (E s) r → Ev (fun k => L k n s) r) :
    ∀ d i s, i + d = n → Inv i s → ∃ s', Inv n s' ∧ ∀ r, Ev (E s') r → Ev (fun k => L k i s) r := by
  intro d
  induction d with
  | zero =>
    intro i s hi hinv
    have : i = n := by omega
    subst this
    exact ⟨s, hinv, last s hinv⟩
  | succ d ih =>
    intro i s hi hinv
    obtain ⟨s1, h1, h2⟩ := step i s (by omega) hinv
    obtain ⟨s2, h3, h4⟩ := ih (i + 1) s1 (by omega) h1
    exact ⟨s2, h3, fun r hr => h2 r (h4 r hr)⟩
theorem copyInts_px (l : List Int) (hl : l.length ≤ 1000000) : spec_copyInts.f l = some l := by
  unfold spec_copyInts.f
  simp only [Option.bind_some]
  rw [if_pos (by simp; omega)]
  simp
theorem laid_set (d ys : List Int) (j i : Nat) (hi : i < ys.length) (hj : j + ys.length ≤ d.length) : (laidOver d j (ys.take i)).set (j + i) ys[i] = laidOver d j (ys.take (i + 1)) := by
  have h1 : (ys.take i).length = i := by rw [List.length_take]; omega
  have h2 : (ys.take (i + 1)).length = i + 1 := by rw [List.length_take]; omega
  have h3 : (d.take j).length = j := by rw [List.length_take]; omega
  unfold laidOver
  rw [h1, h2, List.set_append_right _ _ (by omega), h3, Nat.add_sub_cancel_left, List.set_append_right _ _ (by omega), h1, Nat.sub_self, List.drop_eq_getElem_cons (show j + i < d.length by omega), List.set_cons_zero, List.take_succ_eq_append_getElem hi, List.append_assoc]
  rfl
theorem setPixel_ev {an bn pn x y : Nat} (h1 : an ≤ 16) (h2 : bn ≤ 16) (h3 : pn ≤ 4) (hx : x < an) (hy : y < bn) (d ys : List Int) (hd : d.length = (bn * an) * pn) (hys : ys.length = pn) :
    Ev (fun k => spec_setPixel.f k an bn pn d x y ys) (laidOver d ((y * an + x) * pn) ys) := by
  obtain ⟨hj, hm⟩ := pixJ_nat h1 h2 h3 hx hy
  have hs := small h1 h2 h3
  have hJ : wrap64 ((wrap64 ((wrap64 ((y : Int) * (an : Int))) + (x : Int))) * (pn : Int)) = (((y * an + x) * pn : Nat) : Int) := hj
  generalize hjj : (y * an + x) * pn = j at *
  have HJ := Aside0.mk hJ
  clear hJ hj hjj
  have key := ev_up pn (fun k i s => spec_setPixel.l0 k (x : Int) (y : Int) ys (i : Int) an bn pn s) (fun i s => s = laidOver d j (ys.take i)) (fun _ _ => laidOver d j ys)
    (by
      intro i s hi hinv
      subst hinv
      right
      refine ⟨_, fun k => ?_, laid_set d ys j i (by omega) (by omega), rfl⟩
      simp only [spec_setPixel.l0]
      have e : (((j : Nat) : Int) + (i : Int)) = ((j + i : Nat) : Int) := by push_cast; rfl
      have hl : (laidOver d j (ys.take i)).length = d.length := laidOver_length d j _ (by rw [List.length_take]; omega)
      rw [HJ.out, e, w64 (x := ((j + i : Nat) : Int)) (by omega) (by omega), hl, if_pos (by omega), if_pos (by omega), if_pos (by omega), if_pos (by omega), if_pos (by omega), rd_nat ys i (by omega), w64n i (by omega), Int.toNat_natCast])
    (by
      intro s hinv
      subst hinv
      refine Ev.step (f := fun _ => some (laidOver d j ys)) (fun k => ?_) (Ev.now _)
      simp only [spec_setPixel.l0]
      rw [if_neg (by omega), List.take_of_length_le (by omega)])
    pn 0 d (by omega) (by unfold laidOver; simp)
  unfold spec_setPixel.f
  exact key
theorem pixelAt_eq {an bn pn x y : Nat} (h1 : an ≤ 16) (h2 : bn ≤ 16) (h3 : pn ≤ 4) (hx : x < an) (hy : y < bn) (d : List Int) (hd : d.length = (bn * an) * pn) : spec_pixelAt.f an bn pn d x y = some (nx pn d (y * an + x)) := by
  obtain ⟨hj, hm⟩ := pixJ_nat h1 h2 h3 hx hy
  have hs := small h1 h2 h3
  have hJ : wrap64 ((wrap64 ((wrap64 ((y : Int) * (an : Int))) + (x : Int))) * (pn : Int)) = (((y * an + x) * pn : Nat) : Int) := hj
  have e : ((((y * an + x) * pn : Nat) : Int) + (pn : Int)) = (((y * an + x) * pn + pn : Nat) : Int) := by push_cast; rfl
  have HJ := Aside0.mk hJ
  clear hJ hj
  unfold spec_pixelAt.f nx
  generalize (y * an + x) * pn = j at *
  rw [HJ.out, e, w64 (x := ((j + pn : Nat) : Int)) (by omega) (by omega), if_pos (by omega), if_pos (by omega), if_pos (by omega), Int.toNat_natCast, Int.toNat_natCast, copyInts_px _ (by rw [List.length_drop, List.length_take]; omega)]
  simp only [Option.bind_some]
  congr 1
  rw [List.drop_take]
  congr 1
  omega
theorem newImg_eq {wn hn pn : Nat} (h1 : wn ≤ 16) (h2 : hn ≤ 16) (h3 : pn ≤ 4) : spec_newImage.f wn hn pn = some ((wn : Int), (hn : Int), (pn : Int), List.replicate ((hn * wn) * pn) 0) := by
  have hs := small h1 h2 h3
  have hw : hn * wn ≤ 16 * 16 := Nat.mul_le_mul h2 h1
  have e1 : (wn : Int) * (hn : Int) = ((hn * wn : Nat) : Int) := by rw [Nat.mul_comm]; push_cast; rfl
  have e2 : ((hn * wn : Nat) : Int) * (pn : Int) = (((hn * wn) * pn : Nat) : Int) := by push_cast; rfl
  unfold spec_newImage.f
  rw [e1, w64 (x := ((hn * wn : Nat) : Int)) (by omega) (by omega), e2, w64 (by omega) (by omega), if_pos (by omega), Int.toNat_natCast, if_pos (by omega)]
/-- a part of an image -/
def cropD (an pn : Nat) (d : List Int) (X Y wn hn : Nat) : List Int := imgD (fun x y => nx pn d ((Y + y) * an + (X + x))) wn hn
theorem cropD_len {an bn pn X Y wn hn : Nat} {d : List Int} (hd : d.length = (bn * an) * pn) (hX : X + wn ≤ an) (hY : Y + hn ≤ bn) : ∀ x y, x < wn → y < hn → (nx pn d ((Y + y) * an + (X + x))).length = pn := fun x y hx hy => nx_length hd (lin_lt (by omega) (by omega))
theorem crop_ev {an bn pn X Y wn hn : Nat} (h1 : an ≤ 16) (h2 : bn ≤ 16) (h3 : pn ≤ 4) (hX : X + wn ≤ an) (hY : Y + hn ≤ bn) (d : List Int) (hd : d.length = (bn * an) * pn) :
    Ev (fun k => spec_crop.f k an bn pn d X Y wn hn) ((wn : Int), (hn : Int), (pn : Int), cropD an pn d X Y wn hn) := by
  unfold spec_crop.f
  refine ev_now (newImg_eq (by omega) (by omega) h3) ?_
  have hlen := cropD_len hd hX hY
  have hfl : (cropD an pn d X Y wn hn).length = (hn * wn) * pn := imgD_length hlen
  have inner : ∀ (r : Nat), r < hn → ∀ s : List Int, (s.length = (hn * wn) * pn ∧ ∀ x y, x < wn → y < r → nx pn s (y * wn + x) = nx pn d ((Y + y) * an + (X + x))) →
      ∃ s' : List Int, (s'.length = (hn * wn) * pn ∧ ∀ x y, x < wn → y < r + 1 → nx pn s' (y * wn + x) = nx pn d ((Y + y) * an + (X + x))) ∧
        ∀ res, Ev (fun k => spec_crop.l0 k X Y wn hn ((r + 1 : Nat) : Int) an bn pn d wn hn pn s') res → Ev (fun k => spec_crop.l1 k X Y wn hn (r : Int) 0 an bn pn d wn hn pn s) res := by
    intro r hr s hs
    obtain ⟨s', h4, h5⟩ := ev_run wn (fun k c s => spec_crop.l1 k X Y wn hn (r : Int) (c : Int) an bn pn d wn hn pn s) (fun s k => spec_crop.l0 k X Y wn hn ((r + 1 : Nat) : Int) an bn pn d wn hn pn s)
      (fun c s => s.length = (hn * wn) * pn ∧ (∀ x y, x < wn → y < r → nx pn s (y * wn + x) = nx pn d ((Y + y) * an + (X + x))) ∧ ∀ x, x < c → nx pn s (r * wn + x) = nx pn d ((Y + r) * an + (X + x)))
      (by
        intro c s hc ⟨hsl, i1, i2⟩
        have hyl : (nx pn d ((Y + r) * an + (X + c))).length = pn := hlen c r hc hr
        have hlin := lin_lt hc hr
        have hm : (r * wn + c + 1) * pn ≤ (hn * wn) * pn := Nat.mul_le_mul_right pn hlin
        rw [Nat.add_mul, Nat.one_mul] at hm
        refine ⟨laidOver s ((r * wn + c) * pn) (nx pn d ((Y + r) * an + (X + c))), ⟨by rw [laidOver_length _ _ _ (by rw [hyl, hsl]; exact hm)]; exact hsl, ?_, ?_⟩, ?_⟩
        · intro x y hx hy
          rw [nx_laid hsl hyl hlin (lin_lt hx (by omega)), if_neg (fun e => by have := (lin_ne hx hc e).2; omega)]
          exact i1 x y hx hy
        · intro x hx
          rw [nx_laid hsl hyl hlin (lin_lt (by omega) hr)]
          by_cases e : x = c
          · subst e; rw [if_pos rfl]
          · rw [if_neg (by omega)]; exact i2 x (by omega)
        · intro res hres
          refine Ev.step (f := fun k => (spec_pixelAt.f an bn pn d ((X + c : Nat) : Int) ((Y + r : Nat) : Int)).bind fun t => (spec_setPixel.f k wn hn pn s (c : Int) (r : Int) t).bind fun u => spec_crop.l1 k X Y wn hn (r : Int) ((c + 1 : Nat) : Int) an bn pn d wn hn pn u) (fun k => ?_) (ev_now (pixelAt_eq h1 h2 h3 (by omega) (by omega) d hd) (ev_bind (setPixel_ev (by omega) (by omega) h3 hc hr s _ hsl hyl) hres))
          simp only [spec_crop.l1]
          rw [if_pos (by omega), w64 (x := (X : Int) + (c : Int)) (by omega) (by omega), w64 (x := (Y : Int) + (r : Int)) (by omega) (by omega), w64n c (by omega)]
          push_cast
          rfl)
      (by
        intro s _ res hres
        refine Ev.step (fun k => ?_) hres
        simp only [spec_crop.l1]
        rw [if_neg (by omega), w64n r (by omega)])
      wn 0 s (by omega) ⟨hs.1, hs.2, fun x hx => by omega⟩
    refine ⟨s', ⟨h4.1, fun x y hx hy => ?_⟩, h5⟩
    by_cases e : y = r
    · subst e; exact h4.2.2 x hx
    · exact h4.2.1 x y hx (by omega)
  obtain ⟨s', h4, h5⟩ := ev_run hn (fun k r s => spec_crop.l0 k X Y wn hn (r : Int) an bn pn d wn hn pn s) (fun s _ => some ((wn : Int), (hn : Int), (pn : Int), s))
    (fun r s => s.length = (hn * wn) * pn ∧ ∀ x y, x < wn → y < r → nx pn s (y * wn + x) = nx pn d ((Y + y) * an + (X + x)))
    (by
      intro r s hr hs
      obtain ⟨s', i1, i2⟩ := inner r hr s hs
      refine ⟨s', i1, fun res hres => Ev.step (fun k => ?_) (i2 res hres)⟩
      simp only [spec_crop.l0]
      rw [if_pos (by omega)])
    (by
      intro s _ res hres
      refine Ev.step (fun k => ?_) hres
      simp only [spec_crop.l0]
      rw [if_neg (by omega)])
    hn 0 (List.replicate ((hn * wn) * pn) 0) (by omega) ⟨by simp, fun x y hx hy => by omega⟩
  have e : s' = cropD an pn d X Y wn hn := ext_img h4.1 hfl (fun x y hx hy => by rw [h4.2 x y hx hy]; unfold cropD; rw [nx_imgD hlen hx hy])
  subst e
  exact h5 _ (Ev.now _)
/-- an image with another one over a part of it -/
def pastePx (an pn : Nat) (d : List Int) (X Y : Int) (wn hn : Nat) (e : List Int) (x y : Nat) : List Int :=
  if X ≤ (x : Int) ∧ (x : Int) < X + wn ∧ Y ≤ (y : Int) ∧ (y : Int) < Y + hn then nx pn e (((y : Int) - Y).toNat * wn + ((x : Int) - X).toNat) else nx pn d (y * an + x)
theorem pastePx_len {an bn pn wn hn : Nat} {d e : List Int} {X Y : Int} (hd : d.length = (bn * an) * pn) (he : e.length = (hn * wn) * pn) : ∀ x y, x < an → y < bn → (pastePx an pn d X Y wn hn e x y).length = pn := by
  intro x y hx hy
  unfold pastePx
  split
  · exact nx_length he (lin_lt (by omega) (by omega))
  · exact nx_length hd (lin_lt hx hy)
theorem onImage_eq {an bn : Nat} (h1 : 1 ≤ an ∧ an ≤ 16) (h2 : 1 ≤ bn ∧ bn ≤ 16) (p : Int) (d : List Int) (x y : Int) : spec_onImage.f an bn p d x y = some (decide (0 ≤ x ∧ x < an ∧ 0 ≤ y ∧ y < bn)) := by
  unfold spec_onImage.f
  rw [w64 (x := (an : Int) - 1) (by omega) (by omega), w64 (x := (bn : Int) - 1) (by omega) (by omega), spec_inRangeI_eq, spec_inRangeI_eq]
  simp only [Option.bind_some]
  by_cases c : 0 ≤ x ∧ x ≤ (an : Int) - 1
  · rw [if_pos (by simpa using c)]; congr 1; rw [Bool.eq_iff_iff]; simp; omega
  · rw [if_neg (by simpa using c), decide_eq_false (by omega)]
theorem paste_ev {an bn pn wn hn : Nat} {X Y : Int} (h1 : 1 ≤ an ∧ an ≤ 16) (h2 : 1 ≤ bn ∧ bn ≤ 16) (h3 : pn ≤ 4) (h4 : wn ≤ 16) (h5 : hn ≤ 16) (hX : -16 ≤ X ∧ X ≤ 16) (hY : -16 ≤ Y ∧ Y ≤ 16) (d e : List Int) (hd : d.length = (bn * an) * pn) (he : e.length = (hn * wn) * pn) :
    Ev (fun k => spec_paste.f k an bn pn d X Y wn hn pn e) (imgD (pastePx an pn d X Y wn hn e) an bn) := by
  unfold spec_paste.f
  have hlen := pastePx_len (X := X) (Y := Y) hd he
  let I : Nat → Nat → List Int → Prop := fun r c s => s.length = (bn * an) * pn ∧ ∀ x y : Nat, x < an → y < bn → nx pn s (y * an + x) = if X ≤ (x : Int) ∧ (x : Int) < X + wn ∧ Y ≤ (y : Int) ∧ (y : Int) < Y + hn ∧ ((y : Int) < Y + r ∨ ((y : Int) = Y + r ∧ (x : Int) < X + c)) then nx pn e (((y : Int) - Y).toNat * wn + ((x : Int) - X).toNat) else nx pn d (y * an + x)
  have inner : ∀ (r : Nat), r < hn → ∀ s : List Int, I r 0 s → ∃ s' : List Int, I (r + 1) 0 s' ∧
        ∀ res, Ev (fun k => spec_paste.l0 k X Y ((r + 1 : Nat) : Int) an bn pn s' wn hn pn e) res → Ev (fun k => spec_paste.l1 k X Y (r : Int) 0 an bn pn s wn hn pn e) res := by
    intro r hr s hs
    obtain ⟨s', i4, i5⟩ := ev_run wn (fun k c s => spec_paste.l1 k X Y (r : Int) (c : Int) an bn pn s wn hn pn e) (fun s k => spec_paste.l0 k X Y ((r + 1 : Nat) : Int) an bn pn s wn hn pn e) (fun c s => I r c s)
      (by
        intro c s hc ⟨hsl, i1⟩
        have w1 := w64 (x := X + (c : Int)) (by omega) (by omega)
        have w2 := w64 (x := Y + (r : Int)) (by omega) (by omega)
        by_cases on : 0 ≤ X + (c : Int) ∧ X + (c : Int) < an ∧ 0 ≤ Y + (r : Int) ∧ Y + (r : Int) < bn
        · obtain ⟨x0, hx0⟩ := Int.eq_ofNat_of_zero_le on.1
          obtain ⟨y0, hy0⟩ := Int.eq_ofNat_of_zero_le on.2.2.1
          have hx0a : x0 < an := by omega
          have hy0b : y0 < bn := by omega
          have hyl : (nx pn e (r * wn + c)).length = pn := nx_length he (lin_lt hc hr)
          have hlin := lin_lt hx0a hy0b
          have hm : (y0 * an + x0 + 1) * pn ≤ (bn * an) * pn := Nat.mul_le_mul_right pn hlin
          rw [Nat.add_mul, Nat.one_mul] at hm
          refine ⟨laidOver s ((y0 * an + x0) * pn) (nx pn e (r * wn + c)), ⟨by rw [laidOver_length _ _ _ (by rw [hyl, hsl]; exact hm)]; exact hsl, ?_⟩, ?_⟩
          · intro x y hx hy
            rw [nx_laid hsl hyl hlin (lin_lt hx hy)]
            by_cases q : x = x0 ∧ y = y0
            · obtain ⟨rfl, rfl⟩ := q
              rw [if_pos rfl, if_pos (by omega), show ((y : Int) - Y).toNat = r by omega, show ((x : Int) - X).toNat = c by omega]
            · rw [if_neg (fun z => q (lin_ne hx hx0a z)), i1 x y hx hy]
              by_cases z : X ≤ (x : Int) ∧ (x : Int) < X + wn ∧ Y ≤ (y : Int) ∧ (y : Int) < Y + hn ∧ ((y : Int) < Y + r ∨ ((y : Int) = Y + r ∧ (x : Int) < X + c))
              · rw [if_pos z, if_pos (by omega)]
              · rw [if_neg z, if_neg (by omega)]
          · intro res hres
            refine Ev.step (f := fun k => (spec_onImage.f an bn pn s (X + (c : Int)) (Y + (r : Int))).bind fun u => if u = true then ((spec_pixelAt.f wn hn pn e (c : Int) (r : Int)).bind fun t => (spec_setPixel.f k an bn pn s (X + (c : Int)) (Y + (r : Int)) t).bind fun v => spec_paste.l1 k X Y (r : Int) ((c + 1 : Nat) : Int) an bn pn v wn hn pn e) else spec_paste.l1 k X Y (r : Int) ((c + 1 : Nat) : Int) an bn pn s wn hn pn e) (fun k => ?_) (ev_now (onImage_eq h1 h2 _ _ _ _) (ev_pos (decide_eq_true on) (ev_now (pixelAt_eq h4 h5 h3 hc hr e he) (ev_bind ?_ hres))))
            · simp only [spec_paste.l1]
              rw [if_pos (by omega), w1, w2, w64n c (by omega)]
            · rw [hx0, hy0]
              exact setPixel_ev h1.2 h2.2 h3 hx0a hy0b s _ hsl hyl
        · refine ⟨s, ⟨hsl, fun x y hx hy => ?_⟩, ?_⟩
          · rw [i1 x y hx hy]
            by_cases z : X ≤ (x : Int) ∧ (x : Int) < X + wn ∧ Y ≤ (y : Int) ∧ (y : Int) < Y + hn ∧ ((y : Int) < Y + r ∨ ((y : Int) = Y + r ∧ (x : Int) < X + c))
            · rw [if_pos z, if_pos (by omega)]
            · rw [if_neg z, if_neg (by omega)]
          · intro res hres
            refine Ev.step (f := fun k => (spec_onImage.f an bn pn s (X + (c : Int)) (Y + (r : Int))).bind fun u => if u = true then ((spec_pixelAt.f wn hn pn e (c : Int) (r : Int)).bind fun t => (spec_setPixel.f k an bn pn s (X + (c : Int)) (Y + (r : Int)) t).bind fun v => spec_paste.l1 k X Y (r : Int) ((c + 1 : Nat) : Int) an bn pn v wn hn pn e) else spec_paste.l1 k X Y (r : Int) ((c + 1 : Nat) : Int) an bn pn s wn hn pn e) (fun k => ?_) (ev_now (onImage_eq h1 h2 _ _ _ _) (ev_neg (by simpa using on) hres))
            simp only [spec_paste.l1]
            rw [if_pos (by omega), w1, w2, w64n c (by omega)])
      (by
        intro s _ res hres
        refine Ev.step (fun k => ?_) hres
        simp only [spec_paste.l1]
        rw [if_neg (by omega), w64n r (by omega)])
      wn 0 s (by omega) hs
    refine ⟨s', ⟨i4.1, fun x y hx hy => ?_⟩, i5⟩
    rw [i4.2 x y hx hy]
    by_cases z : X ≤ (x : Int) ∧ (x : Int) < X + wn ∧ Y ≤ (y : Int) ∧ (y : Int) < Y + hn ∧ ((y : Int) < Y + r ∨ ((y : Int) = Y + r ∧ (x : Int) < X + wn))
    · rw [if_pos z, if_pos (by omega)]
    · rw [if_neg z, if_neg (by omega)]
  obtain ⟨s', i4, i5⟩ := ev_run hn (fun k r s => spec_paste.l0 k X Y (r : Int) an bn pn s wn hn pn e) (fun s _ => some s) (fun r s => I r 0 s)
    (by
      intro r s hr hs
      obtain ⟨s', i1, i2⟩ := inner r hr s hs
      refine ⟨s', i1, fun res hres => Ev.step (fun k => ?_) (i2 res hres)⟩
      simp only [spec_paste.l0]
      rw [if_pos (by omega)])
    (by
      intro s _ res hres
      refine Ev.step (fun k => ?_) hres
      simp only [spec_paste.l0]
      rw [if_neg (by omega)])
    hn 0 d (by omega) ⟨hd, fun x y hx hy => by rw [if_neg (by omega)]⟩
  have q : s' = imgD (pastePx an pn d X Y wn hn e) an bn := ext_img i4.1 (imgD_length hlen) (fun x y hx hy => by
    rw [i4.2 x y hx hy, nx_imgD hlen hx hy]
    unfold pastePx
    by_cases z : X ≤ (x : Int) ∧ (x : Int) < X + wn ∧ Y ≤ (y : Int) ∧ (y : Int) < Y + hn
    · rw [if_pos z, if_pos (by omega)]
    · rw [if_neg z, if_neg (by omega)])
  subst q
  exact i5 _ (Ev.now _)

/- Two images of the same shape. -/

def sameV (w h p : Int) (d : List Int) (w' h' p' : Int) (d' : List Int) : Bool := validI w h p d && (validI w' h' p' d' && decide (w = w' ∧ h = h' ∧ p = p'))
theorem sameV_iff (w h p : Int) (d : List Int) (w' h' p' : Int) (d' : List Int) : sameV w h p d w' h' p' d' = true ↔ validI w h p d = true ∧ validI w' h' p' d' = true ∧ w = w' ∧ h = h' ∧ p = p' := by
  simp [sameV]
theorem alikeB (w h p w' h' p' : Int) : (if w = w' then (if h = h' then (some (p == p')) else (some false)) else (some false)) = some (decide (w = w' ∧ h = h' ∧ p = p')) := by
  by_cases c1 : w = w'
  · rw [if_pos c1]
    by_cases c2 : h = h'
    · rw [if_pos c2]
      by_cases c3 : p = p'
      · rw [decide_eq_true (show w = w' ∧ h = h' ∧ p = p' from ⟨c1, c2, c3⟩), beq_iff_eq.2 c3]
      · rw [decide_eq_false (by simp [c3]), beq_eq_false_iff_ne.2 c3]
    · rw [if_neg c2, decide_eq_false (by simp [c2])]
  · rw [if_neg c1, decide_eq_false (by simp [c1])]
theorem impl_alike_eq (w h p : Int) (d : List Int) (w' h' p' : Int) (d' : List Int) : impl_alikeImages.f w h p d w' h' p' d' = some (decide (w = w' ∧ h = h' ∧ p = p')) := by
  unfold impl_alikeImages.f
  exact alikeB w h p w' h' p'
theorem spec_sameShape_ev (w h p : Int) (d : List Int) (w' h' p' : Int) (d' : List Int) (hl : d.length ≤ 1000000000000) (hl' : d'.length ≤ 1000000000000) : Ev (fun k => spec_sameShape.f k w h p d w' h' p' d') (sameV w h p d w' h' p' d') := by
  unfold spec_sameShape.f sameV
  refine ev_bind (spec_validImage_ev w h p d hl) ?_
  by_cases c : validI w h p d = true
  · rw [c, Bool.true_and]
    refine ev_pos rfl (ev_bind (spec_validImage_ev w' h' p' d' hl') ?_)
    by_cases c' : validI w' h' p' d' = true
    · rw [c', Bool.true_and]
      exact ev_pos rfl (ev_const (alikeB w h p w' h' p'))
    · rw [Bool.eq_false_iff.2 c', Bool.false_and]
      exact ev_neg (by simp) (Ev.now _)
  · rw [Bool.eq_false_iff.2 c, Bool.false_and]
    exact ev_neg (by simp) (Ev.now _)

/- PatchImage, as the program and the reference have it. -/

def inBx (r : S47) (x y : Nat) : Bool := decide (r.f0 ≤ (x : Int) ∧ (x : Int) < r.f0 + r.f2 ∧ r.f1 ≤ (y : Int) ∧ (y : Int) < r.f1 + r.f3)
def patchPx (an pn : Nat) (d e : List Int) (l : List S47) (x y : Nat) : List Int := if l.any (fun r => inBx r x y) = true then nx pn e (y * an + x) else nx pn d (y * an + x)
theorem patchPx_len {an bn pn : Nat} {d e : List Int} (hd : d.length = (bn * an) * pn) (he : e.length = (bn * an) * pn) (l : List S47) : ∀ x y, x < an → y < bn → (patchPx an pn d e l x y).length = pn := by
  intro x y hx hy
  unfold patchPx
  split
  · exact nx_length he (lin_lt hx hy)
  · exact nx_length hd (lin_lt hx hy)
theorem onB_box {a b : Int} {r : S47} (h : onB a b r = true) : ∃ X Y W H : Nat, r = ⟨X, Y, W, H⟩ ∧ 1 ≤ W ∧ 1 ≤ H ∧ (X : Int) + W ≤ a ∧ (Y : Int) + H ≤ b := by
  have h' := (onB_iff a b r).1 h
  obtain ⟨X, hX⟩ := Int.eq_ofNat_of_zero_le h'.1
  obtain ⟨Y, hY⟩ := Int.eq_ofNat_of_zero_le h'.2.2.1
  obtain ⟨W, hW⟩ := Int.eq_ofNat_of_zero_le (show 0 ≤ r.f2 by omega)
  obtain ⟨H, hH⟩ := Int.eq_ofNat_of_zero_le (show 0 ≤ r.f3 by omega)
  exact ⟨X, Y, W, H, by cases r; simp_all, by omega, by omega, by omega, by omega⟩
theorem put1_is {an bn pn : Nat} (h1 : an ≤ 16) (h2 : bn ≤ 16) (h3 : pn ≤ 4) {e : List Int} {x y : Nat} (hx : x < an) (hy : y < bn) (d : List Int) : put1 an pn e x y d = laidOver d ((y * an + x) * pn) (nx pn e (y * an + x)) := by
  unfold put1
  rw [(pixJ_nat h1 h2 h3 hx hy).1, Int.toNat_natCast, ← (pixJ_nat h1 h2 h3 hx hy).1]
  rw [show pixT e (pixJ an pn x y) pn = pxAt an pn e x y from rfl, pxAt_nat h1 h2 h3 hx hy]
theorem put1_len {an bn pn : Nat} (h1 : an ≤ 16) (h2 : bn ≤ 16) (h3 : pn ≤ 4) {e : List Int} (he : e.length = (bn * an) * pn) {x y : Nat} (hx : x < an) (hy : y < bn) {d : List Int} (hd : d.length = (bn * an) * pn) : (put1 an pn e x y d).length = (bn * an) * pn := by
  have hlin := lin_lt hx hy
  have hm : (y * an + x + 1) * pn ≤ (bn * an) * pn := Nat.mul_le_mul_right pn hlin
  rw [Nat.add_mul, Nat.one_mul] at hm
  rw [put1_is h1 h2 h3 hx hy, laidOver_length _ _ _ (by rw [nx_length he hlin, hd]; exact hm)]
  exact hd
theorem put1_nx {an bn pn : Nat} (h1 : an ≤ 16) (h2 : bn ≤ 16) (h3 : pn ≤ 4) {e : List Int} (he : e.length = (bn * an) * pn) {x y : Nat} (hx : x < an) (hy : y < bn) {d : List Int} (hd : d.length = (bn * an) * pn) {x' y' : Nat} (hx' : x' < an) (hy' : y' < bn) : nx pn (put1 an pn e x y d) (y' * an + x') = if x' = x ∧ y' = y then nx pn e (y' * an + x') else nx pn d (y' * an + x') := by
  rw [put1_is h1 h2 h3 hx hy, nx_laid hd (nx_length he (lin_lt hx hy)) (lin_lt hx hy) (lin_lt hx' hy')]
  by_cases c : x' = x ∧ y' = y
  · rw [if_pos c, if_pos (by rw [c.1, c.2]), c.1, c.2]
  · rw [if_neg c, if_neg (fun z => c (lin_ne hx' hx z))]
theorem putX_nx {an bn pn : Nat} (h1 : an ≤ 16) (h2 : bn ≤ 16) (h3 : pn ≤ 4) {e : List Int} (he : e.length = (bn * an) * pn) {X y : Nat} (hy : y < bn) {d : List Int} (hd : d.length = (bn * an) * pn) : ∀ n, X + n ≤ an → (putX an pn e X y n d).length = (bn * an) * pn ∧ ∀ x' y', x' < an → y' < bn → nx pn (putX an pn e X y n d) (y' * an + x') = if y' = y ∧ X ≤ x' ∧ x' < X + n then nx pn e (y' * an + x') else nx pn d (y' * an + x') := by
  intro n
  induction n with
  | zero =>
    intro _
    refine ⟨hd, fun x' y' hx' hy' => ?_⟩
    rw [if_neg (by omega)]
    rfl
  | succ n ih =>
    intro hn
    obtain ⟨i1, i2⟩ := ih (by omega)
    rw [putX_succ]
    refine ⟨put1_len h1 h2 h3 he (by omega) hy i1, fun x' y' hx' hy' => ?_⟩
    rw [put1_nx h1 h2 h3 he (by omega) hy i1 hx' hy', i2 x' y' hx' hy']
    by_cases c : x' = X + n ∧ y' = y
    · rw [if_pos c, if_pos (by omega)]
    · rw [if_neg c]
      by_cases c2 : y' = y ∧ X ≤ x' ∧ x' < X + n
      · rw [if_pos c2, if_pos (by omega)]
      · rw [if_neg c2, if_neg (by omega)]
theorem putB_nx {an bn pn : Nat} (h1 : an ≤ 16) (h2 : bn ≤ 16) (h3 : pn ≤ 4) {e : List Int} (he : e.length = (bn * an) * pn) {X Y W : Nat} (hW : X + W ≤ an) {d : List Int} (hd : d.length = (bn * an) * pn) : ∀ n, Y + n ≤ bn → (putB an pn e X Y W n d).length = (bn * an) * pn ∧ ∀ x' y', x' < an → y' < bn → nx pn (putB an pn e X Y W n d) (y' * an + x') = if X ≤ x' ∧ x' < X + W ∧ Y ≤ y' ∧ y' < Y + n then nx pn e (y' * an + x') else nx pn d (y' * an + x') := by
  intro n
  induction n with
  | zero =>
    intro _
    refine ⟨hd, fun x' y' hx' hy' => ?_⟩
    rw [if_neg (by omega)]
    rfl
  | succ n ih =>
    intro hn
    obtain ⟨i1, i2⟩ := ih (by omega)
    obtain ⟨i3, i4⟩ := putX_nx h1 h2 h3 he (X := X) (y := Y + n) (by omega) i1 W hW
    rw [putB_succ]
    refine ⟨i3, fun x' y' hx' hy' => ?_⟩
    rw [i4 x' y' hx' hy', i2 x' y' hx' hy']
    by_cases c : y' = Y + n ∧ X ≤ x' ∧ x' < X + W
    · rw [if_pos c, if_pos (by omega)]
    · rw [if_neg c]
      by_cases c2 : X ≤ x' ∧ x' < X + W ∧ Y ≤ y' ∧ y' < Y + n
      · rw [if_pos c2, if_pos (by omega)]
      · rw [if_neg c2, if_neg (by omega)]
theorem patchD_nx {an bn pn : Nat} (h1 : an ≤ 16) (h2 : bn ≤ 16) (h3 : pn ≤ 4) {e : List Int} (he : e.length = (bn * an) * pn) : ∀ (l : List S47), (∀ r ∈ l, onB an bn r = true) → ∀ d : List Int, d.length = (bn * an) * pn → (patchD an pn e l d).length = (bn * an) * pn ∧ ∀ x' y', x' < an → y' < bn → nx pn (patchD an pn e l d) (y' * an + x') = patchPx an pn d e l x' y' := by
  intro l
  induction l with
  | nil =>
    intro _ d hd
    exact ⟨hd, fun x' y' _ _ => rfl⟩
  | cons r l ih =>
    intro hl d hd
    obtain ⟨X, Y, W, H, rfl, hW, hH, hXW, hYH⟩ := onB_box (hl r (by simp))
    obtain ⟨i1, i2⟩ := putB_nx h1 h2 h3 he (X := X) (Y := Y) (W := W) (by omega) hd H (by omega)
    obtain ⟨i3, i4⟩ := ih (fun q hq => hl q (by simp [hq])) _ i1
    have e0 : patchD an pn e ((⟨X, Y, W, H⟩ : S47) :: l) d = patchD an pn e l (putB an pn e X Y W H d) := rfl
    rw [e0]
    refine ⟨i3, fun x' y' hx' hy' => ?_⟩
    rw [i4 x' y' hx' hy']
    unfold patchPx
    rw [List.any_cons, i2 x' y' hx' hy']
    by_cases c : l.any (fun r => inBx r x' y') = true
    · rw [if_pos c, if_pos (by rw [c]; simp)]
    · rw [if_neg c]
      have cf : l.any (fun r => inBx r x' y') = false := Bool.eq_false_iff.2 c
      rw [cf, Bool.or_false]
      by_cases c2 : X ≤ x' ∧ x' < X + W ∧ Y ≤ y' ∧ y' < Y + H
      · rw [if_pos c2, if_pos (by unfold inBx; exact decide_eq_true (by show (X : Int) ≤ x' ∧ (x' : Int) < (X : Int) + (W : Int) ∧ (Y : Int) ≤ y' ∧ (y' : Int) < (Y : Int) + (H : Int); omega))]
      · rw [if_neg c2, if_neg (by unfold inBx; rw [decide_eq_false (by show ¬ ((X : Int) ≤ x' ∧ (x' : Int) < (X : Int) + (W : Int) ∧ (Y : Int) ≤ y' ∧ (y' : Int) < (Y : Int) + (H : Int)); omega)]; simp)]
/-- what PatchImage answers -/
def patchV (a b p : Int) (d : List Int) (a' b' p' : Int) (e : List Int) (l : List S47) : Int × Int × Int × List Int × Bool :=
  if sameV a b p d a' b' p' e = true ∧ l.length ≤ 128 ∧ l.all (onB a b) = true then (a, b, p, imgD (patchPx a.toNat p.toNat d e l) a.toNat b.toNat, true) else (0, 0, 0, [], false)
theorem onB_is {a b : Int} (r : S47) : onB a b r = decide (0 ≤ r.f0 ∧ r.f0 < a ∧ 0 ≤ r.f1 ∧ r.f1 < b ∧ 1 ≤ r.f2 ∧ r.f2 ≤ a - r.f0 ∧ 1 ≤ r.f3 ∧ r.f3 ≤ b - r.f1) := by
  rw [Bool.eq_iff_iff, onB_iff, decide_eq_true_iff]
theorem isBoxOn_onB {a b p : Int} {d : List Int} (hs : 1 ≤ a ∧ a ≤ 16 ∧ 1 ≤ b ∧ b ≤ 16) (r : S47) : impl_isBoxOn.f a b p d r.f0 r.f1 r.f2 r.f3 = some (onB a b r) := by
  rw [onB_is]
  unfold impl_isBoxOn.f
  generalize r.f0 = x, r.f1 = y, r.f2 = w, r.f3 = h
  by_cases c1 : x ≥ 0
  · rw [if_pos c1]
    by_cases c2 : x < a
    · rw [if_pos c2]
      by_cases c3 : y ≥ 0
      · rw [if_pos c3]
        by_cases c4 : y < b
        · rw [if_pos c4, w64 (x := a - x) (by omega) (by omega), w64 (x := b - y) (by omega) (by omega)]
          by_cases c5 : w ≥ 1
          · rw [if_pos c5]
            by_cases c6 : w ≤ a - x
            · rw [if_pos c6]
              by_cases c7 : h ≥ 1
              · rw [if_pos c7]; congr 1; rw [decide_eq_decide]; omega
              · rw [if_neg c7, decide_eq_false (by omega)]
            · rw [if_neg c6, decide_eq_false (by omega)]
          · rw [if_neg c5, decide_eq_false (by omega)]
        · rw [if_neg c4, decide_eq_false (by omega)]
      · rw [if_neg c3, decide_eq_false (by omega)]
    · rw [if_neg c2, decide_eq_false (by omega)]
  · rw [if_neg c1, decide_eq_false (by omega)]
theorem validBox_onB {a b p : Int} {d : List Int} (hs : 1 ≤ a ∧ a ≤ 16 ∧ 1 ≤ b ∧ b ≤ 16) (r : S47) : spec_validBox.f a b p d r.f0 r.f1 r.f2 r.f3 = some (onB a b r) := by
  rw [onB_is]
  unfold spec_validBox.f
  generalize r.f0 = x, r.f1 = y, r.f2 = w, r.f3 = h
  rw [w64 (x := a - 1) (by omega) (by omega), w64 (x := b - 1) (by omega) (by omega)]
  simp only [spec_inRangeI_eq, Option.bind_some, Bool.and_eq_true, decide_eq_true_eq]
  by_cases c1 : 0 ≤ x ∧ x ≤ a - 1
  · rw [if_pos c1]
    by_cases c2 : 0 ≤ y ∧ y ≤ b - 1
    · rw [if_pos c2, w64 (x := a - x) (by omega) (by omega), w64 (x := b - y) (by omega) (by omega)]
      by_cases c3 : 1 ≤ w ∧ w ≤ a - x
      · rw [if_pos c3]; congr 1; rw [Bool.eq_iff_iff]; simp; omega
      · rw [if_neg c3, decide_eq_false (by omega)]
    · rw [if_neg c2, decide_eq_false (by omega)]
  · rw [if_neg c1, decide_eq_false (by omega)]
theorem rdBx (l : List S47) (i : Nat) (h : i < l.length) : rd_T47 l (i : Int) = l[i] := by simp [rd_T47, h]
theorem impl_PatchImage_ev (a b p : Int) (d : List Int) (a' b' p' : Int) (e : List Int) (l : List S47) (hl : l.length ≤ 1000000000000) : Ev (fun k => impl_PatchImage.f k a b p d a' b' p' e l) (patchV a b p d a' b' p' e l) := by
  unfold impl_PatchImage.f patchV
  have stop : ∀ q, ¬ (sameV a b p d a' b' p' e = true ∧ l.length ≤ 128 ∧ l.all (onB a b) = true) → q = true → Ev (fun k => impl_PatchImage.j0 k l q a b p d a' b' p' e) (if sameV a b p d a' b' p' e = true ∧ l.length ≤ 128 ∧ l.all (onB a b) = true then (a, b, p, imgD (patchPx a.toNat p.toNat d e l) a.toNat b.toNat, true) else (0, 0, 0, [], false)) := by
    intro q hn hq
    subst hq
    rw [if_neg hn]
    refine Ev.step (f := fun _ => some (0, 0, 0, [], false)) (fun k => ?_) (Ev.now _)
    simp only [impl_PatchImage.j0]
    rw [if_pos trivial]
  refine ev_now (impl_isImage_eq a b p d) ?_
  by_cases c1 : validI a b p d = true
  · refine ev_pos c1 (ev_now (impl_isImage_eq a' b' p' e) ?_)
    by_cases c2 : validI a' b' p' e = true
    · refine ev_pos c2 (ev_now (impl_alike_eq a b p d a' b' p' e) ?_)
      by_cases c3 : a = a' ∧ b = b' ∧ p = p'
      · refine ev_pos (decide_eq_true c3) ?_
        have hsame : sameV a b p d a' b' p' e = true := (sameV_iff _ _ _ _ _ _ _ _).2 ⟨c1, c2, c3.1, c3.2.1, c3.2.2⟩
        by_cases c4 : (l.length : Int) > 128
        · exact stop _ (by omega) (decide_eq_true c4)
        · obtain ⟨rfl, rfl, rfl⟩ := c3
          rw [decide_eq_false c4]
          have hs := ((validI_iff a b p d).1 c1).1
          have hs' : 1 ≤ a ∧ a ≤ 16 ∧ 1 ≤ b ∧ b ≤ 16 := by omega
          have hval : l.all (onB a b) = true → impl_patched.f a b p d a b p e l = some (a, b, p, imgD (patchPx a.toNat p.toNat d e l) a.toNat b.toNat) := by
            intro hall
            unfold impl_patched.f
            rw [if_pos ⟨c1, c2, rfl, rfl, rfl, hall⟩]
            obtain ⟨an, bn, pn, rfl, rfl, rfl, q1, q2, q3, q4, q5, q6, q7⟩ := nat_of c1
            obtain ⟨_, _, _, f1, f2, f3, _, _, _, _, _, _, q8⟩ := nat_of c2
            have f1 := Int.ofNat.inj f1
            have f2 := Int.ofNat.inj f2
            have f3 := Int.ofNat.inj f3
            subst f1 f2 f3
            obtain ⟨i1, i2⟩ := patchD_nx q2 q4 q6 q8 l (List.all_eq_true.1 hall) d q7
            simp only [Int.toNat_natCast]
            have hlen := patchPx_len q7 q8 l
            rw [ext_img i1 (imgD_length hlen) (fun x y hx hy => by rw [i2 x y hx hy, nx_imgD hlen hx hy])]
          have key := ev_up l.length (fun k i (_ : Unit) => impl_PatchImage.l0 k l l (l.length : Int) (i : Int) a b p d a b p e) (fun i _ => (l.take i).all (onB a b) = true) (fun _ _ => if l.all (onB a b) = true then (a, b, p, imgD (patchPx a.toNat p.toNat d e l) a.toNat b.toNat, true) else (0, 0, 0, [], false))
            (by
              intro i _ hi hinv
              cases hb : onB a b l[i] with
              | true =>
                refine .inr ⟨(), fun k => ?_, ?_, rfl⟩
                · simp only [impl_PatchImage.l0]
                  rw [if_pos (by omega), if_pos (by omega), if_pos (by omega), rdBx l i hi, isBoxOn_onB hs', hb]
                  simp only [Option.bind_some]
                  rw [if_pos trivial, w64n i (by omega)]
                · rw [List.take_succ_eq_append_getElem hi, List.all_append, hinv, List.all_cons, hb]; rfl
              | false =>
                left
                rw [if_neg (fun h => by
                  have := List.all_eq_true.1 h l[i] (List.getElem_mem hi)
                  rw [hb] at this; cases this)]
                refine Ev.step (f := fun _ => some (0, 0, 0, [], false)) (fun k => ?_) (Ev.now _)
                simp only [impl_PatchImage.l0]
                rw [if_pos (by omega), if_pos (by omega), if_pos (by omega), rdBx l i hi, isBoxOn_onB hs', hb]
                simp)
            (by
              intro _ hinv
              rw [List.take_length] at hinv
              rw [if_pos hinv]
              refine Ev.step (f := fun _ => (impl_patched.f a b p d a b p e l).bind fun t => some (t.1, t.2.1, t.2.2.1, t.2.2.2, true)) (fun k => ?_) (ev_now (hval hinv) (Ev.now _))
              simp only [impl_PatchImage.l0]
              rw [if_neg (by omega)])
            l.length 0 () (by omega) rfl
          refine Ev.step (f := fun k => impl_PatchImage.l0 k l l (l.length : Int) 0 a b p d a b p e) (fun k => ?_) ?_
          · simp only [impl_PatchImage.j0]
            rw [if_neg (by simp)]
          · refine ev_val key ?_
            by_cases hall : l.all (onB a b) = true
            · rw [if_pos hall, if_pos ⟨hsame, by omega, hall⟩]
            · rw [if_neg hall, if_neg (fun h => hall h.2.2)]
      · rw [decide_eq_false c3]
        exact ev_neg (by simp) (stop _ (fun h => c3 (by have := (sameV_iff _ _ _ _ _ _ _ _).1 h.1; omega)) rfl)
    · exact ev_neg c2 (stop _ (fun h => c2 ((sameV_iff _ _ _ _ _ _ _ _).1 h.1).2.1) rfl)
  · exact ev_neg c1 (stop _ (fun h => c1 ((sameV_iff _ _ _ _ _ _ _ _).1 h.1).1) rfl)
theorem spec_PatchImage_ev (a b p : Int) (d : List Int) (a' b' p' : Int) (e : List Int) (l : List S47) (hl : l.length ≤ 1000000000000) (hd0 : d.length ≤ 2000000) (he0 : e.length ≤ 2000000) : Ev (fun k => spec_PatchImage.f k a b p d a' b' p' e l) (patchV a b p d a' b' p' e l) := by
  unfold spec_PatchImage.f
  have stop : ∀ q, ¬ (sameV a b p d a' b' p' e = true ∧ l.length ≤ 128 ∧ l.all (onB a b) = true) → q = true → Ev (fun k => spec_PatchImage.j0 k l q a b p d a' b' p' e) (patchV a b p d a' b' p' e l) := by
    intro q hn hq
    subst hq
    unfold patchV
    rw [if_neg hn]
    refine Ev.step (f := fun _ => some (0, 0, 0, [], false)) (fun k => ?_) (Ev.now _)
    simp only [spec_PatchImage.j0]
    rw [if_pos trivial]
  refine ev_bind (spec_sameShape_ev a b p d a' b' p' e (by omega) (by omega)) ?_
  by_cases c : sameV a b p d a' b' p' e = true
  · refine ev_pos c ?_
    by_cases c4 : (l.length : Int) > 128
    · exact stop _ (by omega) (decide_eq_true c4)
    · rw [decide_eq_false c4]
      obtain ⟨c1, c2, rfl, rfl, rfl⟩ := (sameV_iff _ _ _ _ _ _ _ _).1 c
      have hs := ((validI_iff a b p d).1 c1).1
      have hs' : 1 ≤ a ∧ a ≤ 16 ∧ 1 ≤ b ∧ b ≤ 16 := by omega
      refine Ev.step (f := fun k => (spec_copyImage.f a b p d).bind fun t => spec_PatchImage.l0 k l 0 a b p d a b p e t.1 t.2.1 t.2.2.1 t.2.2.2) (fun k => ?_) ?_
      · simp only [spec_PatchImage.j0]
        rw [if_neg (by simp)]
      · have hd1 : d.length ≤ 1000000 := by
          obtain ⟨an, bn, pn, _, _, _, _, q2, _, q4, _, q6, q7⟩ := nat_of c1
          have sm := small q2 q4 q6
          omega
        refine ev_now (show spec_copyImage.f a b p d = some (a, b, p, d) from by
          unfold spec_copyImage.f
          rw [copyInts_px d hd1]
          rfl) ?_
        obtain ⟨an, bn, pn, rfl, rfl, rfl, q1, q2, q3, q4, q5, q6, q7⟩ := nat_of c1
        obtain ⟨_, _, _, f1, f2, f3, _, _, _, _, _, _, q8⟩ := nat_of c2
        have f1 := Int.ofNat.inj f1
        have f2 := Int.ofNat.inj f2
        have f3 := Int.ofNat.inj f3
        subst f1 f2 f3
        have key := ev_up2 l.length (fun k i (s : List Int) => spec_PatchImage.l0 k l (i : Int) an bn pn d an bn pn e an bn pn s) (fun i s => (l.take i).all (onB an bn) = true ∧ s.length = (bn * an) * pn ∧ ∀ x y, x < an → y < bn → nx pn s (y * an + x) = patchPx an pn d e (l.take i) x y) (fun _ _ => patchV an bn pn d an bn pn e l)
          (by
            intro i s hi ⟨hinv, hsl, hpx⟩
            cases hb : onB an bn l[i] with
            | false =>
              left
              unfold patchV
              rw [if_neg (fun h => by
                have := List.all_eq_true.1 h.2.2 l[i] (List.getElem_mem hi)
                rw [hb] at this; cases this)]
              refine Ev.step (f := fun _ => some (0, 0, 0, [], false)) (fun k => ?_) (Ev.now _)
              simp only [spec_PatchImage.l0]
              rw [if_pos (by omega), if_pos (by omega), rdBx l i hi, validBox_onB hs', hb]
              simp
            | true =>
              right
              obtain ⟨X, Y, W, H, hr, hW, hH, hXW, hYH⟩ := onB_box hb
              have hcl := cropD_len (X := X) (Y := Y) (wn := W) (hn := H) q8 (by omega) (by omega)
              have hcD : (cropD an pn e X Y W H).length = (H * W) * pn := imgD_length hcl
              have hpl := pastePx_len (X := (X : Int)) (Y := (Y : Int)) hsl hcD
              refine ⟨imgD (pastePx an pn s X Y W H (cropD an pn e X Y W H)) an bn, fun res hres => ?_, ⟨by rw [List.take_succ_eq_append_getElem hi, List.all_append, hinv, List.all_cons, hb]; rfl, imgD_length hpl, fun x y hx hy => ?_⟩, rfl⟩
              · refine Ev.step (f := fun k => (spec_validBox.f an bn pn d l[i].f0 l[i].f1 l[i].f2 l[i].f3).bind fun u => if u = true then ((spec_crop.f k an bn pn e l[i].f0 l[i].f1 l[i].f2 l[i].f3).bind fun t => (spec_paste.f k an bn pn s l[i].f0 l[i].f1 t.1 t.2.1 t.2.2.1 t.2.2.2).bind fun v => spec_PatchImage.l0 k l ((i + 1 : Nat) : Int) an bn pn d an bn pn e an bn pn v) else some (0, 0, 0, [], false)) (fun k => ?_) (ev_now (validBox_onB hs' l[i]) (ev_pos hb ?_))
                · simp only [spec_PatchImage.l0]
                  rw [if_pos (by omega), if_pos (by omega), rdBx l i hi, w64n i (by omega)]
                · rw [hr]
                  exact ev_bind (crop_ev q2 q4 q6 (by omega) (by omega) e q8) (ev_bind (paste_ev (X := (X : Int)) (Y := (Y : Int)) ⟨q1, q2⟩ ⟨q3, q4⟩ q6 (by omega) (by omega) (by omega) (by omega) s _ hsl hcD) hres)
              · rw [nx_imgD hpl hx hy]
                unfold pastePx patchPx
                rw [List.take_succ_eq_append_getElem hi, List.any_append, List.any_cons, List.any_nil, Bool.or_false, hr]
                have hbx : inBx (⟨X, Y, W, H⟩ : S47) x y = decide ((X : Int) ≤ x ∧ (x : Int) < (X : Int) + W ∧ (Y : Int) ≤ y ∧ (y : Int) < (Y : Int) + H) := rfl
                rw [hbx]
                by_cases z : (X : Int) ≤ x ∧ (x : Int) < (X : Int) + W ∧ (Y : Int) ≤ y ∧ (y : Int) < (Y : Int) + H
                · rw [if_pos z, decide_eq_true z, Bool.or_true, if_pos rfl]
                  unfold cropD
                  rw [nx_imgD hcl (by omega) (by omega)]
                  congr 2
                  · congr 1
                    omega
                  · omega
                · rw [if_neg z, decide_eq_false z, Bool.or_false, hpx x y hx hy]
                  rfl)
          (by
            intro s ⟨hinv, hsl, hpx⟩
            rw [List.take_length] at hinv hpx
            have hlen := patchPx_len q7 q8 l
            have hse : s = imgD (patchPx an pn d e l) an bn := ext_img hsl (imgD_length hlen) (fun x y hx hy => by rw [hpx x y hx hy, nx_imgD hlen hx hy])
            unfold patchV
            rw [if_pos ⟨c, by omega, hinv⟩]
            simp only [Int.toNat_natCast]
            rw [← hse]
            refine Ev.step (f := fun _ => some ((an : Int), (bn : Int), (pn : Int), s, true)) (fun k => ?_) (Ev.now _)
            simp only [spec_PatchImage.l0]
            rw [if_neg (by omega)])
          l.length 0 d (by omega) ⟨rfl, q7, fun x y _ _ => rfl⟩
        exact key
  · exact ev_neg c (stop _ (fun h => c h.1) rfl)

/- Copies of an image: they are the image; marks on an image. -/

theorem toIntS_ev (l : List Int) (hl : l.length ≤ 2000000) : Ev (fun k => laws_toIntS.f k l) l := by
  have key := ev_up l.length (fun k i s => laws_toIntS.l0 k l s (i : Int)) (fun i s => s.length = l.length ∧ s.take i = l.take i) (fun i s => l)
    (by
      intro i s hi hs
      refine .inr ⟨s.set i l[i], fun k => ?_, ⟨by simpa using hs.1, ?_⟩, rfl⟩
      · simp only [laws_toIntS.l0]
        rw [if_pos (by omega), if_pos (by omega), rd_nat l i hi, if_pos (by omega), w64n i (by omega), Int.toNat_natCast]
      · rw [take_set s i _ (by omega), hs.2, List.take_succ_eq_append_getElem hi])
    (by
      intro s hs
      refine Ev.step (f := fun _ => some s) (fun k => ?_) (ev_const ?_)
      · simp only [laws_toIntS.l0]
        rw [if_neg (by omega)]
      · rw [← List.take_length (l := s), hs.1, hs.2, List.take_length])
    l.length 0 (List.replicate l.length 0) (by omega) ⟨by simp, by simp⟩
  unfold laws_toIntS.f
  refine Ev.congr (fun k => ?_) key
  rw [if_pos (by omega), if_pos (by omega)]
  simp
theorem eqIntS_ev (l : List Int) (hl : l.length ≤ 1000000000000) : Ev (fun k => laws_eqIntS.f k l l) true := by
  have key := ev_up l.length (fun k i (_ : Unit) => laws_eqIntS.l0 k l l (i : Int)) (fun _ _ => True) (fun _ _ => true)
    (by
      intro i s hi _
      refine .inr ⟨(), fun k => ?_, trivial, rfl⟩
      simp only [laws_eqIntS.l0]
      rw [if_pos (by omega), if_pos (by omega), if_pos (by omega), if_pos trivial, w64n i (by omega)])
    (by
      intro s _
      refine Ev.step (f := fun _ => some true) (fun k => ?_) (Ev.now true)
      simp only [laws_eqIntS.l0]
      rw [if_neg (by omega)])
    l.length 0 () (by omega) trivial
  unfold laws_eqIntS.f
  exact ev_pos rfl (by simpa using key)
theorem szIntS_eq (l : List Int) (n : Int) (h0 : 0 ≤ n) (h1 : n ≤ 1048576) (hl : l.length ≤ 9223372036854775807) :
    (l.length ≤ 1048576 ∧ n - (l.length : Int) ≥ 0 ∧ laws_szIntS.f l n = some (n - (l.length : Int))) ∨ laws_szIntS.f l n = some (-1) := by
  unfold laws_szIntS.f
  by_cases c : (l.length : Int) ≤ n
  · left
    rw [w64 (by omega) (by omega), if_neg (by omega)]
    exact ⟨by omega, by omega, rfl⟩
  · right
    rw [w64 (by omega) (by omega), if_pos (by omega)]
theorem szImage_eq (w h p : Int) (d : List Int) (n : Int) (h0 : 0 ≤ n) (h1 : n ≤ 1048576) (hl : d.length ≤ 9223372036854775807) :
    (d.length ≤ 1048576 ∧ n - (d.length : Int) ≥ 0 ∧ laws_szImage.f w h p d n = some (n - (d.length : Int))) ∨ laws_szImage.f w h p d n = some (-1) := by
  unfold laws_szImage.f
  rcases szIntS_eq d n h0 h1 hl with ⟨a, b, c⟩ | c
  · left
    rw [c]
    simp only [Option.bind_some]
    rw [if_neg (by omega)]
    exact ⟨a, b, rfl⟩
  · right
    rw [c]
    simp only [Option.bind_some]
    rw [if_pos (by omega)]
theorem toImage_ev (w h p : Int) (d : List Int) (hl : d.length ≤ 2000000) : Ev (fun k => laws_toImage.f k w h p d) (w, h, p, d) := by
  unfold laws_toImage.f
  exact ev_bind (toIntS_ev d hl) (Ev.now _)
theorem eqImage_ev (w h p : Int) (d : List Int) (hl : d.length ≤ 1000000000000) : Ev (fun k => laws_eqImage.f k w h p d w h p d) true := by
  unfold laws_eqImage.f
  exact ev_pos rfl (ev_pos rfl (ev_pos rfl (ev_bind (eqIntS_ev d hl) (ev_pos rfl (Ev.now _)))))

/- Marks on numbers: what is written into a list, and read again. -/

def markedI (m : Nat) (n : Int) : List Int := (List.range m).map (fun j => n + ((j : Nat) : Int))
theorem markedI_length (m : Nat) (n : Int) : (markedI m n).length = m := by simp [markedI]
theorem markIntS_is (l : List Int) (n : Int) (hl : l.length ≤ 1000000000) (h0 : 0 ≤ n) (h1 : n ≤ 1000000000000) : Ev (fun k => laws_markIntS.f k l n) (n + (l.length : Int), markedI l.length n) := by
  have key := ev_up l.length (fun k i (s : List Int) => laws_markIntS.l0 k s (n + (i : Int)) (i : Int)) (fun i s => s.length = l.length ∧ s.take i = markedI i n) (fun _ _ => (n + (l.length : Int), markedI l.length n))
    (by
      intro i s hi hs
      refine .inr ⟨s.set i (n + (i : Int)), fun k => ?_, ⟨by simpa using hs.1, by rw [take_set s i _ (by omega), hs.2]; unfold markedI; rw [List.range_succ, List.map_append]; rfl⟩, rfl⟩
      simp only [laws_markIntS.l0]
      rw [if_pos (by omega), if_pos (by omega), w64n i (by omega), w64 (x := n + (i : Int) + 1) (by omega) (by omega), Int.toNat_natCast, show n + (i : Int) + 1 = n + ((i + 1 : Nat) : Int) by omega])
    (by
      intro s hs
      refine Ev.step (f := fun _ => some (n + (l.length : Int), s)) (fun k => ?_) (ev_const ?_)
      · simp only [laws_markIntS.l0]
        rw [if_neg (by omega)]
      · rw [← hs.2, ← hs.1, List.take_length])
    l.length 0 l (by omega) ⟨rfl, by simp [markedI]⟩
  unfold laws_markIntS.f
  simpa using key
theorem heldIntS_ev (m : Nat) (n : Int) (hl : m ≤ 1000000000) (h0 : 0 ≤ n) (h1 : n ≤ 1000000000000) : Ev (fun k => laws_heldIntS.f k (markedI m n) n) (n + (m : Int)) := by
  have key := ev_up m (fun k i (_ : Unit) => laws_heldIntS.l0 k (markedI m n) (n + (i : Int)) (i : Int)) (fun _ _ => True) (fun _ _ => n + (m : Int))
    (by
      intro i s hi _
      right
      refine ⟨(), fun k => ?_, trivial, rfl⟩
      simp only [laws_heldIntS.l0]
      have hr : rd (markedI m n) (i : Int) = n + (i : Int) := by
        rw [rd_nat _ i (by rw [markedI_length]; omega)]
        simp [markedI]
      rw [if_pos (by rw [markedI_length]; omega), if_pos (by omega), hr, w64n i (by omega), w64 (x := n + (i : Int) + 1) (by omega) (by omega)]
      have e : n + (i : Int) + 1 = n + ((i + 1 : Nat) : Int) := by omega
      rw [e]
      simp)
    (by
      intro s _
      refine Ev.step (f := fun _ => some (n + (m : Int))) (fun k => ?_) (ev_const rfl)
      simp only [laws_heldIntS.l0]
      rw [if_neg (by rw [markedI_length]; omega)])
    m 0 () (by omega) trivial
  unfold laws_heldIntS.f
  simpa using key

/- Images that are marked, and whether they hold their marks. -/

theorem markImage_is (w h p : Int) (d : List Int) (n : Int) (hl : d.length ≤ 1000000000) (h0 : 0 ≤ n) (h1 : n ≤ 1000000000000) : Ev (fun k => laws_markImage.f k w h p d n) (n + (d.length : Int), markedI d.length n) := by
  unfold laws_markImage.f
  exact ev_bind (markIntS_is d n hl h0 h1) (Ev.now _)
theorem heldImage_ev (w h p : Int) (m : Nat) (n : Int) (hl : m ≤ 1000000000) (h0 : 0 ≤ n) (h1 : n ≤ 1000000000000) : Ev (fun k => laws_heldImage.f k w h p (markedI m n) n) (n + (m : Int)) := by
  unfold laws_heldImage.f
  exact ev_bind (heldIntS_ev m n hl h0 h1) (ev_neg (by omega) (Ev.now _))

/- Copies of a list of Box: they are the list. -/

abbrev Box := S47
abbrev LBox := S137
theorem rdBox (l : List Box) (i : Nat) (h : i < l.length) : rd_T47 l (i : Int) = l[i] := by simp [rd_T47, h]
theorem rdLBox (l : List LBox) (i : Nat) (h : i < l.length) : rd_T137 l (i : Int) = l[i] := by simp [rd_T137, h]
def cBox (r : LBox) : Box := ⟨r.f0, r.f1, r.f2, r.f3⟩
theorem toBoxS_eq (l : List LBox) (hl : l.length ≤ 2000000) (k : Nat) (hk : l.length < k) : laws_toBoxS.f k l = some (l.map cBox) := by
  have h := loop_up 0 l.length (fun k i s => laws_toBoxS.l0 k l s (i : Int)) (fun i s => s.length = l.length) (fun i s => s.take i ++ (l.drop i).map cBox)
    (by
      intro i s k hi hs _
      refine .inr ⟨s.set i (cBox l[i]), ?_, by simpa using hs, ?_⟩
      · simp only [laws_toBoxS.l0]
        rw [if_pos (by omega), if_pos (by omega), rdLBox l i hi]
        simp only [laws_toBox.f, Option.bind_some]
        rw [if_pos (by omega), w64n i (by omega)]; rfl
      · rw [take_set s i _ (by omega), List.drop_eq_getElem_cons hi, List.map_cons, List.append_assoc]; rfl)
    (by
      intro s k hs _
      simp only [laws_toBoxS.l0]
      rw [if_neg (by omega), List.drop_length]; simp [← hs])
    l.length 0 (List.replicate l.length z47) k (by omega) (by simp) (by omega)
  unfold laws_toBoxS.f
  rw [if_pos (by omega), if_pos (by omega)]
  simpa using h
theorem eqBoxS_refl (l : List Box) (hl : l.length ≤ 1000000000000) (k : Nat) (hk : l.length < k) : laws_eqBoxS.f k l l = some true := by
  have h := loop_up 0 l.length (fun k i (_ : Unit) => laws_eqBoxS.l0 k l l (i : Int)) (fun _ _ => True) (fun _ _ => true)
    (by
      intro i s k hi _ _
      refine .inr ⟨(), ?_, trivial, rfl⟩
      simp only [laws_eqBoxS.l0]
      rw [if_pos (by omega), if_pos (by omega), if_pos (by omega), w64n i (by omega)]
      simp [laws_eqBox.f])
    (by
      intro s k _ _
      simp only [laws_eqBoxS.l0]
      rw [if_neg (by omega)])
    l.length 0 () k (by omega) trivial (by omega)
  unfold laws_eqBoxS.f
  rw [if_pos rfl]
  simpa using h
theorem szBoxS_eq (l : List LBox) (n : Int) (h0 : 0 ≤ n) (h1 : n ≤ 1048576) (hl : l.length ≤ 9223372036854775807) :
    (l.length ≤ 1048576 ∧ n - (l.length : Int) ≥ 0 ∧ laws_szBoxS.f l n = some (n - (l.length : Int))) ∨ laws_szBoxS.f l n = some (-1) := by
  unfold laws_szBoxS.f
  by_cases c : (l.length : Int) ≤ n
  · left
    rw [w64 (by omega) (by omega), if_neg (by omega)]
    exact ⟨by omega, by omega, rfl⟩
  · right
    rw [w64 (by omega) (by omega), if_pos (by omega)]

/- Marks on boxes: what is written into a list's boxes, and read again. -/

def markOneB (n : Int) (i : Nat) : Box := ⟨n + 4 * (i : Int), n + 4 * (i : Int) + 1, n + 4 * (i : Int) + 1 + 1, n + 4 * (i : Int) + 1 + 1 + 1⟩
def markedB (m : Nat) (n : Int) : List Box := (List.range m).map (markOneB n)
theorem markedB_succ (m : Nat) (n : Int) : markedB (m + 1) n = markedB m n ++ [markOneB n m] := by simp [markedB, List.range_succ]
theorem markBoxS_ev (l : List Box) (n : Int) (hl : l.length ≤ 1000000000) (h0 : 0 ≤ n) (h1 : n ≤ 1000000000000) : Ev (fun k => laws_markBoxS.f k l n) (n + 4 * (l.length : Int), markedB l.length n) := by
  have key := ev_up l.length (fun k i (s : List Box) => laws_markBoxS.l0 k s (n + 4 * (i : Int)) (i : Int)) (fun i s => s.length = l.length ∧ s.take i = markedB i n) (fun _ _ => (n + 4 * (l.length : Int), markedB l.length n))
    (by
      intro i s hi hs
      right
      have hi' : i < s.length := by omega
      refine ⟨s.set i (markOneB n i), fun k => ?_, ⟨by rw [List.length_set]; exact hs.1, by rw [take_set s i _ hi', hs.2, markedB_succ]⟩, rfl⟩
      simp only [laws_markBoxS.l0]
      have r1 : ∀ c : Box, rd_T47 (s.set i c) (i : Int) = c := by
        intro c
        rw [rdBox (s.set i c) i (by rw [List.length_set]; omega), List.getElem_set_self]
      rw [if_pos (by omega), if_pos (by omega)]
      simp only [Option.bind_some, Int.toNat_natCast, List.set_set, r1]
      rw [w64n i (by omega), w64 (x := n + 4 * (i : Int) + 1) (by omega) (by omega), w64 (x := n + 4 * (i : Int) + 1 + 1) (by omega) (by omega), w64 (x := n + 4 * (i : Int) + 1 + 1 + 1) (by omega) (by omega), w64 (x := n + 4 * (i : Int) + 1 + 1 + 1 + 1) (by omega) (by omega)]
      have e : n + 4 * (i : Int) + 1 + 1 + 1 + 1 = n + 4 * ((i + 1 : Nat) : Int) := by omega
      rw [e]
      rfl)
    (by
      intro s hs
      refine Ev.step (f := fun _ => some (n + 4 * (l.length : Int), s)) (fun k => ?_) (ev_const ?_)
      · simp only [laws_markBoxS.l0]
        rw [if_neg (by omega)]
      · rw [← hs.2, ← hs.1, List.take_length])
    l.length 0 l (by omega) ⟨rfl, by simp [markedB]⟩
  unfold laws_markBoxS.f
  simpa using key
end Go.Proofs.Ytnofkbbcbpjhfaa.Pure
