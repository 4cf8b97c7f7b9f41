/- A part of the proof that the statement FnExactRedrawTilesSaid holds, under no condition of its own: The program's RedrawTiles and the reference's return the same, and what is returned is held by nobody else: over lists of numbers alone. -/
import Derived.Test.YtnofkbbcbpjhfaaCFnExactRedrawTiles2
import Derived.Test.YtnofkbbcbpjhfaaCFnExactRedrawTiles3
import Derived.Test.YtnofkbbcbpjhfaaCFnExactRedrawTiles4
import Derived.Test.YtnofkbbcbpjhfaaCFnExactRedrawTiles1
import Derived.Deep.Slices
import Derived.Deep.Fields
import Derived.ChangeSame
import Derived.ProofKit
import Derived.OpenShut
import Derived.ShutString
import Derived.ChangeOld
import Derived.SizedLaws
import GoSem.Claim
/- The law FnExactRedrawTiles: its walk. -/
namespace Go.Proofs.Ytnofkbbcbpjhfaa.Q
open Go.RowKit Go.Proofs.YtnofkbbcbpjhfaaW.PrintWords Go.Proofs.YtnofkbbcbpjhfaaW.PrintLast Go.Proofs.YtnofkbbcbpjhfaaW.PrintMore
open Go.Proofs.YtnofkbbcbpjhfaaW.PrintWords.Aside0 (mk)
attribute [local go_sem] max2_int min2_int max_two min_two max_three min_three max_four min_four
set_option linter.unusedVariables false
set_option linter.unusedSimpArgs false

def laws_FnExactRedrawTiles.Goes (k : Nat) (a0_0 : Int) (a0_1 : Int) (a0_2 : Int) (l0_3 : List Int) (a1_0 : Int) (a1_1 : Int) (a1_2 : Int) (l1_3 : List Int) (l2_0 : List S51) (l3_0 : List Int) : Prop := (∃ s0 : Int, ¬ (l3_0.length : Int) > 1048576 ∧ laws_szImage.f a0_0 a0_1 a0_2 l0_3 1048576 = some s0 ∧ s0 < 0) ∨ (∃ s0 s1 : Int, ¬ (l3_0.length : Int) > 1048576 ∧ laws_szImage.f a0_0 a0_1 a0_2 l0_3 1048576 = some s0 ∧ ¬ s0 < 0 ∧ laws_szImage.f a1_0 a1_1 a1_2 l1_3 s0 = some s1 ∧ s1 < 0) ∨ (∃ s0 s1 s2 : Int, ¬ (l3_0.length : Int) > 1048576 ∧ laws_szImage.f a0_0 a0_1 a0_2 l0_3 1048576 = some s0 ∧ ¬ s0 < 0 ∧ laws_szImage.f a1_0 a1_1 a1_2 l1_3 s0 = some s1 ∧ ¬ s1 < 0 ∧ laws_szLayerS.f k l2_0 s1 = some s2 ∧ s2 < 0) ∨ ((l3_0.length : Int) > 1048576) ∨ (∃ (s0 : Int) (s1 : Int) (s2 : Int) (x0_0 : Int) (x0_1 : Int) (x0_2 : Int) (x0_3 : List Int) (x1_0 : Int) (x1_1 : Int) (x1_2 : Int) (x1_3 : List Int) (x2_0 : List S55) (x3_0 : List Int) (v0 : Int) (v1 : Int) (v2 : Int) (v3 : List Int) (vok : Bool) (k0 : Int) (y0 : List Int) (k1 : Int) (y1 : List Int) (k2 : Int) (y2 : List S55) (k3 : Int) (y3 : List Int) (m : Int) (u : List Int), laws_szImage.f a0_0 a0_1 a0_2 l0_3 1048576 = some s0 ∧ ¬ s0 < 0 ∧ laws_szImage.f a1_0 a1_1 a1_2 l1_3 s0 = some s1 ∧ ¬ s1 < 0 ∧ laws_szLayerS.f k l2_0 s1 = some s2 ∧ ¬ s2 < 0 ∧ ¬ (l3_0.length : Int) > 1048576 ∧ laws_toImage.f k a0_0 a0_1 a0_2 l0_3 = some (x0_0, x0_1, x0_2, x0_3) ∧ laws_toImage.f k a1_0 a1_1 a1_2 l1_3 = some (x1_0, x1_1, x1_2, x1_3) ∧ laws_toLayerS.f k l2_0 = some x2_0 ∧ laws_toIntS.f k l3_0 = some x3_0 ∧ spec_RedrawTiles.f k x0_0 x0_1 x0_2 x0_3 x1_0 x1_1 x1_2 x1_3 x2_0 x3_0 = some (v0, v1, v2, v3, vok) ∧ impl_RedrawTiles.f k x0_0 x0_1 x0_2 x0_3 x1_0 x1_1 x1_2 x1_3 x2_0 x3_0 = some (v0, v1, v2, v3, vok) ∧ laws_eqImage.f k v0 v1 v2 v3 v0 v1 v2 v3 = some true ∧ laws_eqImage.f k x0_0 x0_1 x0_2 x0_3 x0_0 x0_1 x0_2 x0_3 = some true ∧ laws_eqImage.f k x1_0 x1_1 x1_2 x1_3 x1_0 x1_1 x1_2 x1_3 = some true ∧ laws_eqLayerS.f k x2_0 x2_0 = some true ∧ laws_eqIntS.f k x3_0 x3_0 = some true ∧ laws_markImage.f k x0_0 x0_1 x0_2 x0_3 1 = some (k0, y0) ∧ laws_markImage.f k x1_0 x1_1 x1_2 x1_3 k0 = some (k1, y1) ∧ laws_markLayerS.f k x2_0 k1 = some (k2, y2) ∧ laws_markIntS.f k x3_0 k2 = some (k3, y3) ∧ ¬ k3 < 0 ∧ laws_markImage.f k v0 v1 v2 v3 1 = some (m, u) ∧ laws_heldImage.f k v0 v1 v2 u 1 = some m ∧ ¬ m < 0)
noncomputable def laws_FnExactRedrawTiles.f (k : Nat) (a0_0 : Int) (a0_1 : Int) (a0_2 : Int) (l0_3 : List Int) (a1_0 : Int) (a1_1 : Int) (a1_2 : Int) (l1_3 : List Int) (l2_0 : List S51) (l3_0 : List Int) : Option Bool := @ite _ (laws_FnExactRedrawTiles.Goes k a0_0 a0_1 a0_2 l0_3 a1_0 a1_1 a1_2 l1_3 l2_0 l3_0) (Classical.propDecidable _) (some true) none
theorem laws_FnExactRedrawTiles.f_of {k : Nat} {a0_0 : Int} {a0_1 : Int} {a0_2 : Int} {l0_3 : List Int} {a1_0 : Int} {a1_1 : Int} {a1_2 : Int} {l1_3 : List Int} {l2_0 : List S51} {l3_0 : List Int} (h : laws_FnExactRedrawTiles.Goes k a0_0 a0_1 a0_2 l0_3 a1_0 a1_1 a1_2 l1_3 l2_0 l3_0) : laws_FnExactRedrawTiles.f k a0_0 a0_1 a0_2 l0_3 a1_0 a1_1 a1_2 l1_3 l2_0 l3_0 = some true := by unfold laws_FnExactRedrawTiles.f; rw [if_pos h]
set_option maxHeartbeats 8000000 in
set_option maxRecDepth 100000 in
theorem laws_FnExactRedrawTiles.long3 (k : Nat) (a0_0 : Int) (a0_1 : Int) (a0_2 : Int) (A0_3 : Option Addr) (c0_3 : Nat) (l0_3 : List Int) (a1_0 : Int) (a1_1 : Int) (a1_2 : Int) (A1_3 : Option Addr) (c1_3 : Nat) (l1_3 : List Int) (A2_0 : Option Addr) (c2_0 : Nat) (l2_0 : List S51) (A3_0 : Option Addr) (c3_0 : Nat) (l3_0 : List Int) (w : World) (hr0 : Kd.C (Kd.int .i64) w A0_3 l0_3.length l0_3) (hc0 : l0_3.length ≤ c0_3) (hr1 : Kd.C (Kd.int .i64) w A1_3 l1_3.length l1_3) (hc1 : l1_3.length ≤ c1_3) (hr2 : Kd.C k51 w A2_0 l2_0.length l2_0) (hc2 : l2_0.length ≤ c2_0) (hr3 : Kd.C (Kd.int .i64) w A3_0 l3_0.length l3_0) (hc3 : l3_0.length ≤ c3_0) (hg3 : (l3_0.length : Int) > 1048576) : Calls Try.prog 17 #[.agg #[.int .i64 a0_0, .int .i64 a0_1, .int .i64 a0_2, .slice A0_3 l0_3.length c0_3], .agg #[.int .i64 a1_0, .int .i64 a1_1, .int .i64 a1_2, .slice A1_3 l1_3.length c1_3], .slice A2_0 l2_0.length c2_0, .slice A3_0 l3_0.length c3_0] w fun e w' => e = .returned (.bool true) ∧ Below w.heap.size w w' := by
 have HC0 := mk hc0
 have HR0 := mk hr0
 have HC1 := mk hc1
 have HR1 := mk hr1
 have HC2 := mk hc2
 have HR2 := mk hr2
 have HC3 := mk hc3
 have HR3 := mk hr3
 have HB := mk (Below.refl w.heap.size w)
 clear hc0 hr0 hc1 hr1 hc2 hr2 hc3 hr3
 have hu0 := Try.underlying27
 have hu1 := Try.underlying24
 have dl3 : decide (1048576 < (l3_0.length : Int)) = true := decide_eq_true hg3
 clear hg3
 go_enter Try.func17, Try.ntmps17
 go_wp2_with (first | ((with_reducible refine gate_dst (N := 4) rfl ?_); refine box_event (by rfl) (N := 4) (by rfl) (cs := #[.int .i64 a0_0, .int .i64 a0_1, .int .i64 a0_2, .slice A0_3 l0_3.length c0_3]) (t := 24) (by go_simp; done) ?_; intro gb0 hg_ wb0 hbox hb; have Kgb0 := mk hbox; have HB := mk (below_then HB.out HB.out.size hb); clear hbox hb hg_) | ((with_reducible refine gate_dst (N := 5) rfl ?_); refine box_event (by rfl) (N := 5) (by rfl) (cs := #[.int .i64 a1_0, .int .i64 a1_1, .int .i64 a1_2, .slice A1_3 l1_3.length c1_3]) (t := 24) (by go_simp; done) ?_; intro gb1 hg_ wb1 hbox hb; have Kgb0 := mk (blk_below Kgb0.out hb); have Kgb1 := mk hbox; have HB := mk (below_then HB.out HB.out.size hb); obtain ⟨cb0_0, cb0_1, cb0_2, cb0_3, -⟩ := c4 Kgb0.out; obtain ⟨cb1_0, cb1_1, cb1_2, cb1_3, -⟩ := c4 Kgb1.out; clear hbox hb hg_))
 go_ret
 exact ⟨rfl, HB.out⟩
set_option maxHeartbeats 8000000 in
set_option maxRecDepth 100000 in
theorem laws_FnExactRedrawTiles.big0 (k : Nat) (a0_0 : Int) (a0_1 : Int) (a0_2 : Int) (A0_3 : Option Addr) (c0_3 : Nat) (l0_3 : List Int) (a1_0 : Int) (a1_1 : Int) (a1_2 : Int) (A1_3 : Option Addr) (c1_3 : Nat) (l1_3 : List Int) (A2_0 : Option Addr) (c2_0 : Nat) (l2_0 : List S51) (A3_0 : Option Addr) (c3_0 : Nat) (l3_0 : List Int) (w : World) (hr0 : Kd.C (Kd.int .i64) w A0_3 l0_3.length l0_3) (hc0 : l0_3.length ≤ c0_3) (hr1 : Kd.C (Kd.int .i64) w A1_3 l1_3.length l1_3) (hc1 : l1_3.length ≤ c1_3) (hr2 : Kd.C k51 w A2_0 l2_0.length l2_0) (hc2 : l2_0.length ≤ c2_0) (hr3 : Kd.C (Kd.int .i64) w A3_0 l3_0.length l3_0) (hc3 : l3_0.length ≤ c3_0) (s0 : Int) (hg3 : ¬ (l3_0.length : Int) > 1048576) (hs0 : laws_szImage.f a0_0 a0_1 a0_2 l0_3 1048576 = some s0) (hn0 : s0 < 0) : Calls Try.prog 17 #[.agg #[.int .i64 a0_0, .int .i64 a0_1, .int .i64 a0_2, .slice A0_3 l0_3.length c0_3], .agg #[.int .i64 a1_0, .int .i64 a1_1, .int .i64 a1_2, .slice A1_3 l1_3.length c1_3], .slice A2_0 l2_0.length c2_0, .slice A3_0 l3_0.length c3_0] w fun e w' => e = .returned (.bool true) ∧ Below w.heap.size w w' := by
 have HC0 := mk hc0
 have HR0 := mk hr0
 have HC1 := mk hc1
 have HR1 := mk hr1
 have HC2 := mk hc2
 have HR2 := mk hr2
 have HC3 := mk hc3
 have HR3 := mk hr3
 have HB := mk (Below.refl w.heap.size w)
 clear hc0 hr0 hc1 hr1 hc2 hr2 hc3 hr3
 have hu0 := Try.underlying27
 have hu1 := Try.underlying24
 have dl3 : decide (1048576 < (l3_0.length : Int)) = false := decide_eq_false hg3
 clear hg3
 have HS0 := mk hs0
 have dn0 : decide (s0 < 0) = true := decide_eq_true hn0
 clear hs0 hn0
 go_enter Try.func17, Try.ntmps17
 go_wp2_with (first | ((with_reducible refine gate_dst (N := 4) rfl ?_); refine box_event (by rfl) (N := 4) (by rfl) (cs := #[.int .i64 a0_0, .int .i64 a0_1, .int .i64 a0_2, .slice A0_3 l0_3.length c0_3]) (t := 24) (by go_simp; done) ?_; intro gb0 hg_ wb0 hbox hb; have Kgb0 := mk hbox; have HB := mk (below_then HB.out HB.out.size hb); clear hbox hb hg_) | ((with_reducible refine gate_dst (N := 5) rfl ?_); refine box_event (by rfl) (N := 5) (by rfl) (cs := #[.int .i64 a1_0, .int .i64 a1_1, .int .i64 a1_2, .slice A1_3 l1_3.length c1_3]) (t := 24) (by go_simp; done) ?_; intro gb1 hg_ wb1 hbox hb; have Kgb0 := mk (blk_below Kgb0.out hb); have Kgb1 := mk hbox; have HB := mk (below_then HB.out HB.out.size hb); obtain ⟨cb0_0, cb0_1, cb0_2, cb0_3, -⟩ := c4 Kgb0.out; obtain ⟨cb1_0, cb1_1, cb1_2, cb1_3, -⟩ := c4 Kgb1.out; clear hbox hb hg_) | (go_at_call 20; (with_reducible refine (laws_szImage.calls a0_0 a0_1 a0_2 A0_3 c0_3 l0_3 1048576 s0 wb1 (Kd.C_below HR0.out HB.out) HC0.out HS0.out).mono ?_); rintro e wz0 ⟨rfl, hb⟩; have Kgb0 := mk (blk_below Kgb0.out hb); have Kgb1 := mk (blk_below Kgb1.out hb); have HB := mk (below_then HB.out HB.out.size hb); obtain ⟨cb0_0, cb0_1, cb0_2, cb0_3, -⟩ := c4 Kgb0.out; obtain ⟨cb1_0, cb1_1, cb1_2, cb1_3, -⟩ := c4 Kgb1.out; clear hb))
 go_ret
 exact ⟨rfl, HB.out⟩
set_option maxHeartbeats 8000000 in
set_option maxRecDepth 100000 in
theorem laws_FnExactRedrawTiles.big1 (k : Nat) (a0_0 : Int) (a0_1 : Int) (a0_2 : Int) (A0_3 : Option Addr) (c0_3 : Nat) (l0_3 : List Int) (a1_0 : Int) (a1_1 : Int) (a1_2 : Int) (A1_3 : Option Addr) (c1_3 : Nat) (l1_3 : List Int) (A2_0 : Option Addr) (c2_0 : Nat) (l2_0 : List S51) (A3_0 : Option Addr) (c3_0 : Nat) (l3_0 : List Int) (w : World) (hr0 : Kd.C (Kd.int .i64) w A0_3 l0_3.length l0_3) (hc0 : l0_3.length ≤ c0_3) (hr1 : Kd.C (Kd.int .i64) w A1_3 l1_3.length l1_3) (hc1 : l1_3.length ≤ c1_3) (hr2 : Kd.C k51 w A2_0 l2_0.length l2_0) (hc2 : l2_0.length ≤ c2_0) (hr3 : Kd.C (Kd.int .i64) w A3_0 l3_0.length l3_0) (hc3 : l3_0.length ≤ c3_0) (s0 : Int) (s1 : Int) (hg3 : ¬ (l3_0.length : Int) > 1048576) (hs0 : laws_szImage.f a0_0 a0_1 a0_2 l0_3 1048576 = some s0) (hn0 : ¬ s0 < 0) (hs1 : laws_szImage.f a1_0 a1_1 a1_2 l1_3 s0 = some s1) (hn1 : s1 < 0) : Calls Try.prog 17 #[.agg #[.int .i64 a0_0, .int .i64 a0_1, .int .i64 a0_2, .slice A0_3 l0_3.length c0_3], .agg #[.int .i64 a1_0, .int .i64 a1_1, .int .i64 a1_2, .slice A1_3 l1_3.length c1_3], .slice A2_0 l2_0.length c2_0, .slice A3_0 l3_0.length c3_0] w fun e w' => e = .returned (.bool true) ∧ Below w.heap.size w w' := by
 have HC0 := mk hc0
 have HR0 := mk hr0
 have HC1 := mk hc1
 have HR1 := mk hr1
 have HC2 := mk hc2
 have HR2 := mk hr2
 have HC3 := mk hc3
 have HR3 := mk hr3
 have HB := mk (Below.refl w.heap.size w)
 clear hc0 hr0 hc1 hr1 hc2 hr2 hc3 hr3
 have hu0 := Try.underlying27
 have hu1 := Try.underlying24
 have dl3 : decide (1048576 < (l3_0.length : Int)) = false := decide_eq_false hg3
 clear hg3
 have HS0 := mk hs0
 have dn0 : decide (s0 < 0) = false := decide_eq_false hn0
 have HS1 := mk hs1
 have dn1 : decide (s1 < 0) = true := decide_eq_true hn1
 clear hs0 hn0 hs1 hn1
 go_enter Try.func17, Try.ntmps17
 go_wp2_with (first | ((with_reducible refine gate_dst (N := 4) rfl ?_); refine box_event (by rfl) (N := 4) (by rfl) (cs := #[.int .i64 a0_0, .int .i64 a0_1, .int .i64 a0_2, .slice A0_3 l0_3.length c0_3]) (t := 24) (by go_simp; done) ?_; intro gb0 hg_ wb0 hbox hb; have Kgb0 := mk hbox; have HB := mk (below_then HB.out HB.out.size hb); clear hbox hb hg_) | ((with_reducible refine gate_dst (N := 5) rfl ?_); refine box_event (by rfl) (N := 5) (by rfl) (cs := #[.int .i64 a1_0, .int .i64 a1_1, .int .i64 a1_2, .slice A1_3 l1_3.length c1_3]) (t := 24) (by go_simp; done) ?_; intro gb1 hg_ wb1 hbox hb; have Kgb0 := mk (blk_below Kgb0.out hb); have Kgb1 := mk hbox; have HB := mk (below_then HB.out HB.out.size hb); obtain ⟨cb0_0, cb0_1, cb0_2, cb0_3, -⟩ := c4 Kgb0.out; obtain ⟨cb1_0, cb1_1, cb1_2, cb1_3, -⟩ := c4 Kgb1.out; clear hbox hb hg_) | (go_at_call 20; (with_reducible refine (laws_szImage.calls a0_0 a0_1 a0_2 A0_3 c0_3 l0_3 1048576 s0 wb1 (Kd.C_below HR0.out HB.out) HC0.out HS0.out).mono ?_); rintro e wz0 ⟨rfl, hb⟩; have Kgb0 := mk (blk_below Kgb0.out hb); have Kgb1 := mk (blk_below Kgb1.out hb); have HB := mk (below_then HB.out HB.out.size hb); obtain ⟨cb0_0, cb0_1, cb0_2, cb0_3, -⟩ := c4 Kgb0.out; obtain ⟨cb1_0, cb1_1, cb1_2, cb1_3, -⟩ := c4 Kgb1.out; clear hb) | (go_at_call 20; (with_reducible refine (laws_szImage.calls a1_0 a1_1 a1_2 A1_3 c1_3 l1_3 s0 s1 wz0 (Kd.C_below HR1.out HB.out) HC1.out HS1.out).mono ?_); rintro e wz1 ⟨rfl, hb⟩; have Kgb0 := mk (blk_below Kgb0.out hb); have Kgb1 := mk (blk_below Kgb1.out hb); have HB := mk (below_then HB.out HB.out.size hb); obtain ⟨cb0_0, cb0_1, cb0_2, cb0_3, -⟩ := c4 Kgb0.out; obtain ⟨cb1_0, cb1_1, cb1_2, cb1_3, -⟩ := c4 Kgb1.out; clear hb))
 go_ret
 exact ⟨rfl, HB.out⟩
set_option maxHeartbeats 8000000 in
set_option maxRecDepth 100000 in
theorem laws_FnExactRedrawTiles.big2 (k : Nat) (a0_0 : Int) (a0_1 : Int) (a0_2 : Int) (A0_3 : Option Addr) (c0_3 : Nat) (l0_3 : List Int) (a1_0 : Int) (a1_1 : Int) (a1_2 : Int) (A1_3 : Option Addr) (c1_3 : Nat) (l1_3 : List Int) (A2_0 : Option Addr) (c2_0 : Nat) (l2_0 : List S51) (A3_0 : Option Addr) (c3_0 : Nat) (l3_0 : List Int) (w : World) (hr0 : Kd.C (Kd.int .i64) w A0_3 l0_3.length l0_3) (hc0 : l0_3.length ≤ c0_3) (hr1 : Kd.C (Kd.int .i64) w A1_3 l1_3.length l1_3) (hc1 : l1_3.length ≤ c1_3) (hr2 : Kd.C k51 w A2_0 l2_0.length l2_0) (hc2 : l2_0.length ≤ c2_0) (hr3 : Kd.C (Kd.int .i64) w A3_0 l3_0.length l3_0) (hc3 : l3_0.length ≤ c3_0) (s0 : Int) (s1 : Int) (s2 : Int) (hg3 : ¬ (l3_0.length : Int) > 1048576) (hs0 : laws_szImage.f a0_0 a0_1 a0_2 l0_3 1048576 = some s0) (hn0 : ¬ s0 < 0) (hs1 : laws_szImage.f a1_0 a1_1 a1_2 l1_3 s0 = some s1) (hn1 : ¬ s1 < 0) (hs2 : laws_szLayerS.f k l2_0 s1 = some s2) (hn2 : s2 < 0) : Calls Try.prog 17 #[.agg #[.int .i64 a0_0, .int .i64 a0_1, .int .i64 a0_2, .slice A0_3 l0_3.length c0_3], .agg #[.int .i64 a1_0, .int .i64 a1_1, .int .i64 a1_2, .slice A1_3 l1_3.length c1_3], .slice A2_0 l2_0.length c2_0, .slice A3_0 l3_0.length c3_0] w fun e w' => e = .returned (.bool true) ∧ Below w.heap.size w w' := by
 have HC0 := mk hc0
 have HR0 := mk hr0
 have HC1 := mk hc1
 have HR1 := mk hr1
 have HC2 := mk hc2
 have HR2 := mk hr2
 have HC3 := mk hc3
 have HR3 := mk hr3
 have HB := mk (Below.refl w.heap.size w)
 clear hc0 hr0 hc1 hr1 hc2 hr2 hc3 hr3
 have hu0 := Try.underlying27
 have hu1 := Try.underlying24
 have dl3 : decide (1048576 < (l3_0.length : Int)) = false := decide_eq_false hg3
 clear hg3
 have HS0 := mk hs0
 have dn0 : decide (s0 < 0) = false := decide_eq_false hn0
 have HS1 := mk hs1
 have dn1 : decide (s1 < 0) = false := decide_eq_false hn1
 have HS2 := mk hs2
 have dn2 : decide (s2 < 0) = true := decide_eq_true hn2
 clear hs0 hn0 hs1 hn1 hs2 hn2
 go_enter Try.func17, Try.ntmps17
 go_wp2_with (first | ((with_reducible refine gate_dst (N := 4) rfl ?_); refine box_event (by rfl) (N := 4) (by rfl) (cs := #[.int .i64 a0_0, .int .i64 a0_1, .int .i64 a0_2, .slice A0_3 l0_3.length c0_3]) (t := 24) (by go_simp; done) ?_; intro gb0 hg_ wb0 hbox hb; have Kgb0 := mk hbox; have HB := mk (below_then HB.out HB.out.size hb); clear hbox hb hg_) | ((with_reducible refine gate_dst (N := 5) rfl ?_); refine box_event (by rfl) (N := 5) (by rfl) (cs := #[.int .i64 a1_0, .int .i64 a1_1, .int .i64 a1_2, .slice A1_3 l1_3.length c1_3]) (t := 24) (by go_simp; done) ?_; intro gb1 hg_ wb1 hbox hb; have Kgb0 := mk (blk_below Kgb0.out hb); have Kgb1 := mk hbox; have HB := mk (below_then HB.out HB.out.size hb); obtain ⟨cb0_0, cb0_1, cb0_2, cb0_3, -⟩ := c4 Kgb0.out; obtain ⟨cb1_0, cb1_1, cb1_2, cb1_3, -⟩ := c4 Kgb1.out; clear hbox hb hg_) | (go_at_call 20; (with_reducible refine (laws_szImage.calls a0_0 a0_1 a0_2 A0_3 c0_3 l0_3 1048576 s0 wb1 (Kd.C_below HR0.out HB.out) HC0.out HS0.out).mono ?_); rintro e wz0 ⟨rfl, hb⟩; have Kgb0 := mk (blk_below Kgb0.out hb); have Kgb1 := mk (blk_below Kgb1.out hb); have HB := mk (below_then HB.out HB.out.size hb); obtain ⟨cb0_0, cb0_1, cb0_2, cb0_3, -⟩ := c4 Kgb0.out; obtain ⟨cb1_0, cb1_1, cb1_2, cb1_3, -⟩ := c4 Kgb1.out; clear hb) | (go_at_call 20; (with_reducible refine (laws_szImage.calls a1_0 a1_1 a1_2 A1_3 c1_3 l1_3 s0 s1 wz0 (Kd.C_below HR1.out HB.out) HC1.out HS1.out).mono ?_); rintro e wz1 ⟨rfl, hb⟩; have Kgb0 := mk (blk_below Kgb0.out hb); have Kgb1 := mk (blk_below Kgb1.out hb); have HB := mk (below_then HB.out HB.out.size hb); obtain ⟨cb0_0, cb0_1, cb0_2, cb0_3, -⟩ := c4 Kgb0.out; obtain ⟨cb1_0, cb1_1, cb1_2, cb1_3, -⟩ := c4 Kgb1.out; clear hb) | (go_at_call 64; (with_reducible refine (laws_szLayerS.calls k A2_0 c2_0 l2_0 s1 s2 wz1 (Kd.C_below HR2.out HB.out) HC2.out HS2.out).mono ?_); rintro e wz2 ⟨rfl, hb⟩; have Kgb0 := mk (blk_below Kgb0.out hb); have Kgb1 := mk (blk_below Kgb1.out hb); have HB := mk (below_then HB.out HB.out.size hb); obtain ⟨cb0_0, cb0_1, cb0_2, cb0_3, -⟩ := c4 Kgb0.out; obtain ⟨cb1_0, cb1_1, cb1_2, cb1_3, -⟩ := c4 Kgb1.out; clear hb))
 go_ret
 exact ⟨rfl, HB.out⟩
set_option maxHeartbeats 8000000 in
set_option maxRecDepth 100000 in
theorem laws_FnExactRedrawTiles.way (k : Nat) (a0_0 : Int) (a0_1 : Int) (a0_2 : Int) (A0_3 : Option Addr) (c0_3 : Nat) (l0_3 : List Int) (a1_0 : Int) (a1_1 : Int) (a1_2 : Int) (A1_3 : Option Addr) (c1_3 : Nat) (l1_3 : List Int) (A2_0 : Option Addr) (c2_0 : Nat) (l2_0 : List S51) (A3_0 : Option Addr) (c3_0 : Nat) (l3_0 : List Int) (w : World) (hr0 : Kd.C (Kd.int .i64) w A0_3 l0_3.length l0_3) (hc0 : l0_3.length ≤ c0_3) (hr1 : Kd.C (Kd.int .i64) w A1_3 l1_3.length l1_3) (hc1 : l1_3.length ≤ c1_3) (hr2 : Kd.C k51 w A2_0 l2_0.length l2_0) (hc2 : l2_0.length ≤ c2_0) (hr3 : Kd.C (Kd.int .i64) w A3_0 l3_0.length l3_0) (hc3 : l3_0.length ≤ c3_0) (s0 : Int) (s1 : Int) (s2 : Int) (x0_0 : Int) (x0_1 : Int) (x0_2 : Int) (x0_3 : List Int) (x1_0 : Int) (x1_1 : Int) (x1_2 : Int) (x1_3 : List Int) (x2_0 : List S55) (x3_0 : List Int) (v0 : Int) (v1 : Int) (v2 : Int) (v3 : List Int) (vok : Bool) (k0 : Int) (y0 : List Int) (k1 : Int) (y1 : List Int) (k2 : Int) (y2 : List S55) (k3 : Int) (y3 : List Int) (m : Int) (u : List Int) (HS0 : laws_szImage.f a0_0 a0_1 a0_2 l0_3 1048576 = some s0) (HN0 : ¬ s0 < 0) (HS1 : laws_szImage.f a1_0 a1_1 a1_2 l1_3 s0 = some s1) (HN1 : ¬ s1 < 0) (HS2 : laws_szLayerS.f k l2_0 s1 = some s2) (HN2 : ¬ s2 < 0) (HG3 : ¬ (l3_0.length : Int) > 1048576) (HT0 : laws_toImage.f k a0_0 a0_1 a0_2 l0_3 = some (x0_0, x0_1, x0_2, x0_3)) (HT1 : laws_toImage.f k a1_0 a1_1 a1_2 l1_3 = some (x1_0, x1_1, x1_2, x1_3)) (HT2 : laws_toLayerS.f k l2_0 = some x2_0) (HT3 : laws_toIntS.f k l3_0 = some x3_0) (HSP : spec_RedrawTiles.f k x0_0 x0_1 x0_2 x0_3 x1_0 x1_1 x1_2 x1_3 x2_0 x3_0 = some (v0, v1, v2, v3, vok)) (HIM : impl_RedrawTiles.f k x0_0 x0_1 x0_2 x0_3 x1_0 x1_1 x1_2 x1_3 x2_0 x3_0 = some (v0, v1, v2, v3, vok)) (HEV : laws_eqImage.f k v0 v1 v2 v3 v0 v1 v2 v3 = some true) (HE0 : laws_eqImage.f k x0_0 x0_1 x0_2 x0_3 x0_0 x0_1 x0_2 x0_3 = some true) (HE1 : laws_eqImage.f k x1_0 x1_1 x1_2 x1_3 x1_0 x1_1 x1_2 x1_3 = some true) (HE2 : laws_eqLayerS.f k x2_0 x2_0 = some true) (HE3 : laws_eqIntS.f k x3_0 x3_0 = some true) (HM0 : laws_markImage.f k x0_0 x0_1 x0_2 x0_3 1 = some (k0, y0)) (HM1 : laws_markImage.f k x1_0 x1_1 x1_2 x1_3 k0 = some (k1, y1)) (HM2 : laws_markLayerS.f k x2_0 k1 = some (k2, y2)) (HM3 : laws_markIntS.f k x3_0 k2 = some (k3, y3)) (HKN : ¬ k3 < 0) (HMR : laws_markImage.f k v0 v1 v2 v3 1 = some (m, u)) (HHR : laws_heldImage.f k v0 v1 v2 u 1 = some m) (HMN : ¬ m < 0) : Calls Try.prog 17 #[.agg #[.int .i64 a0_0, .int .i64 a0_1, .int .i64 a0_2, .slice A0_3 l0_3.length c0_3], .agg #[.int .i64 a1_0, .int .i64 a1_1, .int .i64 a1_2, .slice A1_3 l1_3.length c1_3], .slice A2_0 l2_0.length c2_0, .slice A3_0 l3_0.length c3_0] w fun e w' => e = .returned (.bool true) ∧ Below w.heap.size w w' := by
 have HC0 := mk hc0
 have HR0 := mk hr0
 have HC1 := mk hc1
 have HR1 := mk hr1
 have HC2 := mk hc2
 have HR2 := mk hr2
 have HC3 := mk hc3
 have HR3 := mk hr3
 have HB := mk (Below.refl w.heap.size w)
 clear hc0 hr0 hc1 hr1 hc2 hr2 hc3 hr3
 have hu0 := Try.underlying27
 have hu1 := Try.underlying24
 replace HS0 := mk HS0
 replace HN0 := mk HN0
 replace HS1 := mk HS1
 replace HN1 := mk HN1
 replace HS2 := mk HS2
 replace HN2 := mk HN2
 replace HG3 := mk HG3
 replace HT0 := mk HT0
 replace HT1 := mk HT1
 replace HT2 := mk HT2
 replace HT3 := mk HT3
 replace HSP := mk HSP
 replace HIM := mk HIM
 replace HEV := mk HEV
 replace HE0 := mk HE0
 replace HE1 := mk HE1
 replace HE2 := mk HE2
 replace HE3 := mk HE3
 replace HM0 := mk HM0
 replace HM1 := mk HM1
 replace HM2 := mk HM2
 replace HM3 := mk HM3
 replace HKN := mk HKN
 replace HMR := mk HMR
 replace HHR := mk HHR
 replace HMN := mk HMN
 have dn0 : decide (s0 < 0) = false := decide_eq_false HN0.out
 have dn1 : decide (s1 < 0) = false := decide_eq_false HN1.out
 have dn2 : decide (s2 < 0) = false := decide_eq_false HN2.out
 have dl3 : decide (1048576 < (l3_0.length : Int)) = false := decide_eq_false HG3.out
 have dk : decide (k3 < 0) = false := decide_eq_false HKN.out
 have dm : decide (m < 0) = false := decide_eq_false HMN.out
 go_enter Try.func17, Try.ntmps17
 go_upto_region 13 with (first | ((with_reducible refine gate_dst (N := 4) rfl ?_); refine box_event (by rfl) (N := 4) (by rfl) (cs := #[.int .i64 a0_0, .int .i64 a0_1, .int .i64 a0_2, .slice A0_3 l0_3.length c0_3]) (t := 24) (by go_simp; done) ?_; intro gb0 hg_ wb0 hbox hb; have Kgb0 := mk hbox; have HB := mk (below_then HB.out HB.out.size hb); clear hbox hb hg_) | ((with_reducible refine gate_dst (N := 5) rfl ?_); refine box_event (by rfl) (N := 5) (by rfl) (cs := #[.int .i64 a1_0, .int .i64 a1_1, .int .i64 a1_2, .slice A1_3 l1_3.length c1_3]) (t := 24) (by go_simp; done) ?_; intro gb1 hg_ wb1 hbox hb; have Kgb0 := mk (blk_below Kgb0.out hb); have Kgb1 := mk hbox; have HB := mk (below_then HB.out HB.out.size hb); obtain ⟨cb0_0, cb0_1, cb0_2, cb0_3, -⟩ := c4 Kgb0.out; obtain ⟨cb1_0, cb1_1, cb1_2, cb1_3, -⟩ := c4 Kgb1.out; clear hbox hb hg_) | (go_at_call 20; (with_reducible refine (laws_szImage.calls a0_0 a0_1 a0_2 A0_3 c0_3 l0_3 1048576 s0 wb1 (Kd.C_below HR0.out HB.out) HC0.out HS0.out).mono ?_); rintro e wz0 ⟨rfl, hb⟩; have Kgb0 := mk (blk_below Kgb0.out hb); have Kgb1 := mk (blk_below Kgb1.out hb); have HB := mk (below_then HB.out HB.out.size hb); obtain ⟨cb0_0, cb0_1, cb0_2, cb0_3, -⟩ := c4 Kgb0.out; obtain ⟨cb1_0, cb1_1, cb1_2, cb1_3, -⟩ := c4 Kgb1.out; clear hb) | (go_at_call 20; (with_reducible refine (laws_szImage.calls a1_0 a1_1 a1_2 A1_3 c1_3 l1_3 s0 s1 wz0 (Kd.C_below HR1.out HB.out) HC1.out HS1.out).mono ?_); rintro e wz1 ⟨rfl, hb⟩; have Kgb0 := mk (blk_below Kgb0.out hb); have Kgb1 := mk (blk_below Kgb1.out hb); have HB := mk (below_then HB.out HB.out.size hb); obtain ⟨cb0_0, cb0_1, cb0_2, cb0_3, -⟩ := c4 Kgb0.out; obtain ⟨cb1_0, cb1_1, cb1_2, cb1_3, -⟩ := c4 Kgb1.out; clear hb) | (go_at_call 64; (with_reducible refine (laws_szLayerS.calls k A2_0 c2_0 l2_0 s1 s2 wz1 (Kd.C_below HR2.out HB.out) HC2.out HS2.out).mono ?_); rintro e wz2 ⟨rfl, hb⟩; have Kgb0 := mk (blk_below Kgb0.out hb); have Kgb1 := mk (blk_below Kgb1.out hb); have HB := mk (below_then HB.out HB.out.size hb); obtain ⟨cb0_0, cb0_1, cb0_2, cb0_3, -⟩ := c4 Kgb0.out; obtain ⟨cb1_0, cb1_1, cb1_2, cb1_3, -⟩ := c4 Kgb1.out; clear hb))
 have HBSw := mk HB.out.size
 have HZw := mk (Nat.le_refl wz2.heap.size)
 replace HB := mk (below_drew HB.out)
 replace Kgb0 := mk (blk_below Kgb0.out (below_drew (Below.refl _ _)))
 replace Kgb1 := mk (blk_below Kgb1.out (below_drew (Below.refl _ _)))
 replace HZw := mk (show wz2.heap.size ≤ wz2.drew.heap.size from HZw.out)
 have QKgb0 := mk (show gb0 < wz2.heap.size from blk_lt Kgb0.out)
 have QKgb1 := mk (show gb1 < wz2.heap.size from blk_lt Kgb1.out)
 refine start_ (n := 15) (S := fun w' => w'.cell? ⟨gb0, 0, none⟩ = some (.int .i64 a0_0) ∧ w'.cell? ⟨gb0, 1, none⟩ = some (.int .i64 a0_1) ∧ w'.cell? ⟨gb0, 2, none⟩ = some (.int .i64 a0_2) ∧ w'.cell? ⟨gb0, 3, none⟩ = some (.slice A0_3 l0_3.length c0_3) ∧ w'.cell? ⟨gb1, 0, none⟩ = some (.int .i64 a1_0) ∧ w'.cell? ⟨gb1, 1, none⟩ = some (.int .i64 a1_1) ∧ w'.cell? ⟨gb1, 2, none⟩ = some (.int .i64 a1_2) ∧ w'.cell? ⟨gb1, 3, none⟩ = some (.slice A1_3 l1_3.length c1_3)) (ds := []) #[false, false, false, false, false, false, false, false, false, false, false, false, false, false, false] (by kernel_rfl) rfl rfl ⟨((blk_cell Kgb0.out 0).trans rfl), ((blk_cell Kgb0.out 1).trans rfl), ((blk_cell Kgb0.out 2).trans rfl), ((blk_cell Kgb0.out 3).trans rfl), ((blk_cell Kgb1.out 0).trans rfl), ((blk_cell Kgb1.out 1).trans rfl), ((blk_cell Kgb1.out 2).trans rfl), ((blk_cell Kgb1.out 3).trans rfl)⟩ (fun hHeld => ?_)
 refine pure_ (i := 4) (N := some 46) (v := ?_) (a' := ?_) #[false, false, false, false, true, false, false, false, false, false, false, false, false, false, false] rfl rfl (by kernel_rfl) (fun _ _ _ h => h) (Or.inl ⟨by rfl, ?_⟩) ?_ ?_
 rotate_left
 ·intro w'
  go_simp
  with_reducible rfl
 rotate_left
 ·simp only [Act.put, List.setIfInBounds_toArray, List.set_cons_zero, List.set_cons_succ, i64_w, i32_w]
  rfl
 refine pure_ (i := 6) (N := some 48) (v := ?_) (a' := ?_) #[false, false, false, false, true, false, true, false, false, false, false, false, false, false, false] rfl rfl (by kernel_rfl) (fun _ _ _ h => h) (Or.inl ⟨by rfl, ?_⟩) ?_ ?_
 rotate_left
 ·intro w'
  go_simp
  with_reducible rfl
 rotate_left
 ·simp only [Act.put, List.setIfInBounds_toArray, List.set_cons_zero, List.set_cons_succ, i64_w, i32_w]
  rfl
 refine take_ (i := 0) (N := some 42) (v := ?_) (a' := ?_) #[true, false, false, false, true, false, true, false, false, false, false, false, false, false, false] rfl rfl (by kernel_rfl) (fun _ _ _ h => h) (Or.inl ⟨by rfl, ?_⟩) hHeld ?_ ?_
 rotate_left
 ·rintro w' ⟨s0, s1, s2, s3, s4, s5, s6, s7⟩
  go_simp
  with_reducible rfl
 rotate_left
 ·simp only [Act.put, List.setIfInBounds_toArray, List.set_cons_zero, List.set_cons_succ, i64_w, i32_w]
  rfl
 refine take_ (i := 2) (N := some 44) (v := ?_) (a' := ?_) #[true, false, true, false, true, false, true, false, false, false, false, false, false, false, false] rfl rfl (by kernel_rfl) (fun _ _ _ h => h) (Or.inl ⟨by rfl, ?_⟩) hHeld ?_ ?_
 rotate_left
 ·rintro w' ⟨s0, s1, s2, s3, s4, s5, s6, s7⟩
  go_simp
  with_reducible rfl
 rotate_left
 ·simp only [Act.put, List.setIfInBounds_toArray, List.set_cons_zero, List.set_cons_succ, i64_w, i32_w]
  rfl
 refine join_ (σ := Value × Value × Value × Value × Value × Nat) 2 #[true, true, true, true, true, true, true, true, true, true, true, true, true, false, false] (fun s_ => [(43, .agg #[.int .i64 x0_0, .int .i64 x0_1, .int .i64 x0_2, s_.1]), (45, .agg #[.int .i64 x1_0, .int .i64 x1_1, .int .i64 x1_2, s_.2.1]), (47, s_.2.2.1), (49, s_.2.2.2.1), (50, .tuple #[.agg #[.int .i64 v0, .int .i64 v1, .int .i64 v2, s_.2.2.2.2.1], .bool vok]), (41, .tuple #[.agg #[.int .i64 v0, .int .i64 v1, .int .i64 v2, s_.2.2.2.2.1], .bool vok]), (51, .agg #[.int .i64 v0, .int .i64 v1, .int .i64 v2, s_.2.2.2.2.1]), (52, .bool vok), (10, .pointer (some ⟨s_.2.2.2.2.2, 0, none⟩))]) (fun s_ w' => Kd.R (Kd.int .i64) 3 w' w.heap.size (fun k_ => wz2.heap.size ≤ k_ ∧ k_ < w'.heap.size) s_.2.2.2.2.1 v3 ∧ w'.heap[s_.2.2.2.2.2]? = some (.cells #[.int .i64 0, .int .i64 0, .int .i64 0, .slice none 0 0] 27 (0, 0)) ∧ wz2.heap.size ≤ s_.2.2.2.2.2 ∧ w'.heap[gb0]? = some (.cells #[.int .i64 a0_0, .int .i64 a0_1, .int .i64 a0_2, .slice A0_3 l0_3.length c0_3] 24 (0, 0)) ∧ w'.heap[gb1]? = some (.cells #[.int .i64 a1_0, .int .i64 a1_1, .int .i64 a1_2, .slice A1_3 l1_3.length c1_3] 24 (0, 0)) ∧ Below w.heap.size w w' ∧ wz2.heap.size ≤ w'.heap.size) ?_ ?_
 rotate_left
 ·intro hCont
  refine two_ (i := 1) (j := 12) (Ni := some 43) (Nj := some 10) #[true, true, true, false, true, false, true, false, false, false, false, false, false, false, false] #[true, false, true, false, true, false, true, false, false, false, false, false, true, false, false] rfl rfl rfl rfl (by kernel_rfl) (by decide) (by decide) (fun K hK => ?_) (fun K hK => ?_)
  ·skip
   refine goes_ Try.func22 (by kernel_rfl) rfl #[.agg #[.int .i64 a0_0, .int .i64 a0_1, .int .i64 a0_2, .slice A0_3 l0_3.length c0_3]] (by rfl) rfl rfl (by simp only [List.map_toArray, List.map_cons, List.map_nil]; rfl) ?_
   with_reducible refine (laws_toImage.calls k a0_0 a0_1 a0_2 A0_3 c0_3 l0_3 x0_0 x0_1 x0_2 x0_3 _ (Kd.C_below HR0.out HB.out) HC0.out HT0.out).mono ?_
   rintro e w2 ⟨vt_, rfl, hr_, hb_⟩
   refine ⟨_, rfl, ?_⟩
   replace HB := mk (below_then HB.out HB.out.size hb_)
   replace Kgb0 := mk (blk_below Kgb0.out hb_)
   replace Kgb1 := mk (blk_below Kgb1.out hb_)
   replace HZw := mk (Nat.le_trans HZw.out hb_.size)
   obtain ⟨At0, ct0, rfl, hl_, hC_⟩ := Kd.R_reads hr_
   have HT_0 := mk hC_
   have HL_0 := mk hl_
   clear hr_ hb_ hl_ hC_
   refine hK.out _ _ ⟨((blk_cell Kgb0.out 0).trans rfl), ((blk_cell Kgb0.out 1).trans rfl), ((blk_cell Kgb0.out 2).trans rfl), ((blk_cell Kgb0.out 3).trans rfl), ((blk_cell Kgb1.out 0).trans rfl), ((blk_cell Kgb1.out 1).trans rfl), ((blk_cell Kgb1.out 2).trans rfl), ((blk_cell Kgb1.out 3).trans rfl)⟩ (fun hHeld => ?_)
   clear hK K
   refine norm_ (a' := ?_) ?_ ?_
   rotate_left
   ·show Act.put _ (some 43) _ = _
    simp only [Act.put, List.setIfInBounds_toArray, List.set_cons_zero, List.set_cons_succ, i64_w, i32_w]
    rfl
   refine two_ (i := 3) (j := 12) (Ni := some 45) (Nj := some 10) #[true, true, true, true, true, false, true, false, false, false, false, false, false, false, false] #[true, true, true, false, true, false, true, false, false, false, false, false, true, false, false] rfl rfl rfl rfl (by kernel_rfl) (by decide) (by decide) (fun K hK => ?_) (fun K hK => ?_)
   ·skip
    refine goes_ Try.func22 (by kernel_rfl) rfl #[.agg #[.int .i64 a1_0, .int .i64 a1_1, .int .i64 a1_2, .slice A1_3 l1_3.length c1_3]] (by rfl) rfl rfl (by simp only [List.map_toArray, List.map_cons, List.map_nil]; rfl) ?_
    with_reducible refine (laws_toImage.calls k a1_0 a1_1 a1_2 A1_3 c1_3 l1_3 x1_0 x1_1 x1_2 x1_3 _ (Kd.C_below HR1.out HB.out) HC1.out HT1.out).mono ?_
    rintro e w3 ⟨vt_, rfl, hr_, hb_⟩
    refine ⟨_, rfl, ?_⟩
    replace HB := mk (below_then HB.out HB.out.size hb_)
    replace Kgb0 := mk (blk_below Kgb0.out hb_)
    replace Kgb1 := mk (blk_below Kgb1.out hb_)
    replace HT_0 := mk (Kd.C_below HT_0.out hb_)
    replace HZw := mk (Nat.le_trans HZw.out hb_.size)
    obtain ⟨At1, ct1, rfl, hl_, hC_⟩ := Kd.R_reads hr_
    have HT_1 := mk hC_
    have HL_1 := mk hl_
    clear hr_ hb_ hl_ hC_
    refine hK.out _ _ ⟨((blk_cell Kgb0.out 0).trans rfl), ((blk_cell Kgb0.out 1).trans rfl), ((blk_cell Kgb0.out 2).trans rfl), ((blk_cell Kgb0.out 3).trans rfl), ((blk_cell Kgb1.out 0).trans rfl), ((blk_cell Kgb1.out 1).trans rfl), ((blk_cell Kgb1.out 2).trans rfl), ((blk_cell Kgb1.out 3).trans rfl)⟩ (fun hHeld => ?_)
    clear hK K
    refine norm_ (a' := ?_) ?_ ?_
    rotate_left
    ·show Act.put _ (some 45) _ = _
     simp only [Act.put, List.setIfInBounds_toArray, List.set_cons_zero, List.set_cons_succ, i64_w, i32_w]
     rfl
    refine two_ (i := 5) (j := 12) (Ni := some 47) (Nj := some 10) #[true, true, true, true, true, true, true, false, false, false, false, false, false, false, false] #[true, true, true, true, true, false, true, false, false, false, false, false, true, false, false] rfl rfl rfl rfl (by kernel_rfl) (by decide) (by decide) (fun K hK => ?_) (fun K hK => ?_)
    ·skip
     refine goes_ Try.func66 (by kernel_rfl) rfl #[.slice A2_0 l2_0.length c2_0] (by rfl) rfl rfl (by simp only [List.map_toArray, List.map_cons, List.map_nil]; rfl) ?_
     with_reducible refine (laws_toLayerS.calls k A2_0 c2_0 l2_0 x2_0 _ (Kd.C_below HR2.out HB.out) HC2.out HT2.out).mono ?_
     rintro e w4 ⟨vt_, rfl, hr_, hb_⟩
     refine ⟨_, rfl, ?_⟩
     replace HB := mk (below_then HB.out HB.out.size hb_)
     replace Kgb0 := mk (blk_below Kgb0.out hb_)
     replace Kgb1 := mk (blk_below Kgb1.out hb_)
     replace HT_0 := mk (Kd.C_below HT_0.out hb_)
     replace HT_1 := mk (Kd.C_below HT_1.out hb_)
     replace HZw := mk (Nat.le_trans HZw.out hb_.size)
     obtain ⟨At2, ct2, rfl, hl_, hC_⟩ := Kd.S_reads hr_
     have HT_2 := mk hC_
     have HL_2 := mk hl_
     clear hr_ hb_ hl_ hC_
     refine hK.out _ _ ⟨((blk_cell Kgb0.out 0).trans rfl), ((blk_cell Kgb0.out 1).trans rfl), ((blk_cell Kgb0.out 2).trans rfl), ((blk_cell Kgb0.out 3).trans rfl), ((blk_cell Kgb1.out 0).trans rfl), ((blk_cell Kgb1.out 1).trans rfl), ((blk_cell Kgb1.out 2).trans rfl), ((blk_cell Kgb1.out 3).trans rfl)⟩ (fun hHeld => ?_)
     clear hK K
     refine norm_ (a' := ?_) ?_ ?_
     rotate_left
     ·show Act.put _ (some 47) _ = _
      simp only [Act.put, List.setIfInBounds_toArray, List.set_cons_zero, List.set_cons_succ, i64_w, i32_w]
      rfl
     refine two_ (i := 7) (j := 12) (Ni := some 49) (Nj := some 10) #[true, true, true, true, true, true, true, true, false, false, false, false, false, false, false] #[true, true, true, true, true, true, true, false, false, false, false, false, true, false, false] rfl rfl rfl rfl (by kernel_rfl) (by decide) (by decide) (fun K hK => ?_) (fun K hK => ?_)
     ·skip
      refine goes_ Try.func77 (by kernel_rfl) rfl #[.slice A3_0 l3_0.length c3_0] (by rfl) rfl rfl (by simp only [List.map_toArray, List.map_cons, List.map_nil]; rfl) ?_
      with_reducible refine (laws_toIntS.calls k A3_0 c3_0 l3_0 x3_0 _ (Kd.C_below HR3.out HB.out) HC3.out HT3.out).mono ?_
      rintro e w5 ⟨vt_, rfl, hr_, hb_⟩
      refine ⟨_, rfl, ?_⟩
      replace HB := mk (below_then HB.out HB.out.size hb_)
      replace Kgb0 := mk (blk_below Kgb0.out hb_)
      replace Kgb1 := mk (blk_below Kgb1.out hb_)
      replace HT_0 := mk (Kd.C_below HT_0.out hb_)
      replace HT_1 := mk (Kd.C_below HT_1.out hb_)
      replace HT_2 := mk (Kd.C_below HT_2.out hb_)
      replace HZw := mk (Nat.le_trans HZw.out hb_.size)
      obtain ⟨At3, ct3, rfl, hl_, hC_⟩ := Kd.R_reads hr_
      have HT_3 := mk hC_
      have HL_3 := mk hl_
      clear hr_ hb_ hl_ hC_
      refine hK.out _ _ ⟨((blk_cell Kgb0.out 0).trans rfl), ((blk_cell Kgb0.out 1).trans rfl), ((blk_cell Kgb0.out 2).trans rfl), ((blk_cell Kgb0.out 3).trans rfl), ((blk_cell Kgb1.out 0).trans rfl), ((blk_cell Kgb1.out 1).trans rfl), ((blk_cell Kgb1.out 2).trans rfl), ((blk_cell Kgb1.out 3).trans rfl)⟩ (fun hHeld => ?_)
      clear hK K
      refine norm_ (a' := ?_) ?_ ?_
      rotate_left
      ·show Act.put _ (some 49) _ = _
       simp only [Act.put, List.setIfInBounds_toArray, List.set_cons_zero, List.set_cons_succ, i64_w, i32_w]
       rfl
      refine two_ (i := 8) (j := 12) (Ni := some 50) (Nj := some 10) #[true, true, true, true, true, true, true, true, true, false, false, false, false, false, false] #[true, true, true, true, true, true, true, true, false, false, false, false, true, false, false] rfl rfl rfl rfl (by kernel_rfl) (by decide) (by decide) (fun K hK => ?_) (fun K hK => ?_)
      ·skip
       refine goes_ Try.func76 (by kernel_rfl) rfl #[.agg #[.int .i64 x0_0, .int .i64 x0_1, .int .i64 x0_2, .slice At0 x0_3.length ct0], .agg #[.int .i64 x1_0, .int .i64 x1_1, .int .i64 x1_2, .slice At1 x1_3.length ct1], .slice At2 x2_0.length ct2, .slice At3 x3_0.length ct3] (by rfl) rfl rfl (by simp only [List.map_toArray, List.map_cons, List.map_nil]; rfl) ?_
       with_reducible refine (spec_RedrawTiles.calls k x0_0 x0_1 x0_2 At0 ct0 x0_3 x1_0 x1_1 x1_2 At1 ct1 x1_3 At2 ct2 x2_0 At3 ct3 x3_0 v0 v1 v2 v3 vok _ HT_0.out HL_0.out HT_1.out HL_1.out HT_2.out HL_2.out HT_3.out HL_3.out HSP.out).mono ?_
       rintro e w6 ⟨vw_, rfl, hr_, hb_⟩
       refine ⟨_, rfl, ?_⟩
       have HZp_ := HZw
       have HBp_ := HB
       replace HB := mk (below_then HB.out HB.out.size hb_)
       replace Kgb0 := mk (blk_below Kgb0.out hb_)
       replace Kgb1 := mk (blk_below Kgb1.out hb_)
       replace HT_0 := mk (Kd.C_below HT_0.out hb_)
       replace HT_1 := mk (Kd.C_below HT_1.out hb_)
       replace HT_2 := mk (Kd.C_below HT_2.out hb_)
       replace HT_3 := mk (Kd.C_below HT_3.out hb_)
       replace HZw := mk (Nat.le_trans HZw.out hb_.size)
       have Rw := mk (Kd.R_lower (Kd.R_mono (Kd.R_bound hr_) (fun k_ hk_ => (⟨Nat.le_trans HZp_.out hk_.2.1, hk_.2.2.1⟩ : wz2.heap.size ≤ k_ ∧ k_ < w6.heap.size))) HBp_.out.size)
       clear hr_ hb_ HZp_ HBp_
       refine hK.out _ _ ⟨((blk_cell Kgb0.out 0).trans rfl), ((blk_cell Kgb0.out 1).trans rfl), ((blk_cell Kgb0.out 2).trans rfl), ((blk_cell Kgb0.out 3).trans rfl), ((blk_cell Kgb1.out 0).trans rfl), ((blk_cell Kgb1.out 1).trans rfl), ((blk_cell Kgb1.out 2).trans rfl), ((blk_cell Kgb1.out 3).trans rfl)⟩ (fun hHeld => ?_)
       clear hK K
       refine norm_ (a' := ?_) ?_ ?_
       rotate_left
       ·show Act.put _ (some 50) _ = _
        simp only [Act.put, List.setIfInBounds_toArray, List.set_cons_zero, List.set_cons_succ, i64_w, i32_w]
        rfl
       refine pure_ (i := 9) (N := some 41) (v := ?_) (a' := ?_) #[true, true, true, true, true, true, true, true, true, true, false, false, false, false, false] rfl rfl (by kernel_rfl) (fun _ _ _ h => h) (Or.inl ⟨by rfl, ?_⟩) ?_ ?_
       rotate_left
       ·intro w'
        go_simp
        with_reducible rfl
       rotate_left
       ·simp only [Act.put, List.setIfInBounds_toArray, List.set_cons_zero, List.set_cons_succ, i64_w, i32_w]
        rfl
       refine pure_ (i := 10) (N := some 51) (v := ?_) (a' := ?_) #[true, true, true, true, true, true, true, true, true, true, true, false, false, false, false] rfl rfl (by kernel_rfl) (fun _ _ _ h => h) (Or.inl ⟨by rfl, ?_⟩) ?_ ?_
       rotate_left
       ·intro w'
        go_simp
        with_reducible rfl
       rotate_left
       ·simp only [Act.put, List.setIfInBounds_toArray, List.set_cons_zero, List.set_cons_succ, i64_w, i32_w]
        rfl
       refine pure_ (i := 11) (N := some 52) (v := ?_) (a' := ?_) #[true, true, true, true, true, true, true, true, true, true, true, true, false, false, false] rfl rfl (by kernel_rfl) (fun _ _ _ h => h) (Or.inl ⟨by rfl, ?_⟩) ?_ ?_
       rotate_left
       ·intro w'
        go_simp
        with_reducible rfl
       rotate_left
       ·simp only [Act.put, List.setIfInBounds_toArray, List.set_cons_zero, List.set_cons_succ, i64_w, i32_w]
        rfl
       refine one_ (i := 12) (N := some 10) #[true, true, true, true, true, true, true, true, true, true, true, true, true, false, false] rfl rfl (by kernel_rfl) (by decide) (fun K hK => ?_)
       refine value_ (w1 := ?_) (v := ?_) (by rfl) rfl ?_ ?_
       rotate_left 2
       ·go_simp
        constructor
        ·rfl
        rfl
       replace HB := mk (below_alloc HB.out (.cells #[.int .i64 0, .int .i64 0, .int .i64 0, .slice none 0 0] 27))
       replace Kgb0 := mk (blk_alloc Kgb0.out (.cells #[.int .i64 0, .int .i64 0, .int .i64 0, .slice none 0 0] 27))
       replace Kgb1 := mk (blk_alloc Kgb1.out (.cells #[.int .i64 0, .int .i64 0, .int .i64 0, .slice none 0 0] 27))
       replace HT_0 := mk (Kd.C_alloc HT_0.out (.cells #[.int .i64 0, .int .i64 0, .int .i64 0, .slice none 0 0] 27))
       replace HT_1 := mk (Kd.C_alloc HT_1.out (.cells #[.int .i64 0, .int .i64 0, .int .i64 0, .slice none 0 0] 27))
       replace HT_2 := mk (Kd.C_alloc HT_2.out (.cells #[.int .i64 0, .int .i64 0, .int .i64 0, .slice none 0 0] 27))
       replace HT_3 := mk (Kd.C_alloc HT_3.out (.cells #[.int .i64 0, .int .i64 0, .int .i64 0, .slice none 0 0] 27))
       replace Rw := mk (Kd.R_mono (Kd.R_bound (Kd.R_alloc Rw.out (.cells #[.int .i64 0, .int .i64 0, .int .i64 0, .slice none 0 0] 27))) (fun k_ hk_ => (⟨hk_.1.1, hk_.2.2.1⟩ : wz2.heap.size ≤ k_ ∧ k_ < (w6.alloc (.cells #[.int .i64 0, .int .i64 0, .int .i64 0, .slice none 0 0] 27)).heap.size)))
       have KA_ := mk (blk_new w6 (.cells #[.int .i64 0, .int .i64 0, .int .i64 0, .slice none 0 0] 27 (0, 0)))
       have GA_ := HZw
       replace HZw := mk (Nat.le_trans HZw.out (below_alloc (Below.refl _ _) (.cells #[.int .i64 0, .int .i64 0, .int .i64 0, .slice none 0 0] 27)).size)
       refine hK.out _ _ ⟨((blk_cell Kgb0.out 0).trans rfl), ((blk_cell Kgb0.out 1).trans rfl), ((blk_cell Kgb0.out 2).trans rfl), ((blk_cell Kgb0.out 3).trans rfl), ((blk_cell Kgb1.out 0).trans rfl), ((blk_cell Kgb1.out 1).trans rfl), ((blk_cell Kgb1.out 2).trans rfl), ((blk_cell Kgb1.out 3).trans rfl)⟩ (fun hHeld => ?_)
       clear hK K
       refine norm_ (a' := ?_) ?_ ?_
       rotate_left
       ·show Act.put _ (some 10) _ = _
        simp only [Act.put, List.setIfInBounds_toArray, List.set_cons_zero, List.set_cons_succ, i64_w, i32_w]
        rfl
       exact norm_ (by (simp only [putAll, Act.put, List.setIfInBounds_toArray, List.set_cons_zero, List.set_cons_succ]; done)) (hCont (.slice At0 x0_3.length ct0, .slice At1 x1_3.length ct1, .slice At2 x2_0.length ct2, .slice At3 x3_0.length ct3, vw_, w6.heap.size) _ ⟨Rw.out, KA_.out, GA_.out, Kgb0.out, Kgb1.out, HB.out, HZw.out⟩)
      skip
      refine value_ (w1 := ?_) (v := ?_) (by rfl) rfl ?_ ?_
      rotate_left 2
      ·go_simp
       constructor
       ·rfl
       rfl
      replace HB := mk (below_alloc HB.out (.cells #[.int .i64 0, .int .i64 0, .int .i64 0, .slice none 0 0] 27))
      replace Kgb0 := mk (blk_alloc Kgb0.out (.cells #[.int .i64 0, .int .i64 0, .int .i64 0, .slice none 0 0] 27))
      replace Kgb1 := mk (blk_alloc Kgb1.out (.cells #[.int .i64 0, .int .i64 0, .int .i64 0, .slice none 0 0] 27))
      replace HT_0 := mk (Kd.C_alloc HT_0.out (.cells #[.int .i64 0, .int .i64 0, .int .i64 0, .slice none 0 0] 27))
      replace HT_1 := mk (Kd.C_alloc HT_1.out (.cells #[.int .i64 0, .int .i64 0, .int .i64 0, .slice none 0 0] 27))
      replace HT_2 := mk (Kd.C_alloc HT_2.out (.cells #[.int .i64 0, .int .i64 0, .int .i64 0, .slice none 0 0] 27))
      replace HT_3 := mk (Kd.C_alloc HT_3.out (.cells #[.int .i64 0, .int .i64 0, .int .i64 0, .slice none 0 0] 27))
      have KA_ := mk (blk_new w5 (.cells #[.int .i64 0, .int .i64 0, .int .i64 0, .slice none 0 0] 27 (0, 0)))
      have GA_ := HZw
      replace HZw := mk (Nat.le_trans HZw.out (below_alloc (Below.refl _ _) (.cells #[.int .i64 0, .int .i64 0, .int .i64 0, .slice none 0 0] 27)).size)
      refine hK.out _ _ ⟨((blk_cell Kgb0.out 0).trans rfl), ((blk_cell Kgb0.out 1).trans rfl), ((blk_cell Kgb0.out 2).trans rfl), ((blk_cell Kgb0.out 3).trans rfl), ((blk_cell Kgb1.out 0).trans rfl), ((blk_cell Kgb1.out 1).trans rfl), ((blk_cell Kgb1.out 2).trans rfl), ((blk_cell Kgb1.out 3).trans rfl)⟩ (fun hHeld => ?_)
      clear hK K
      refine norm_ (a' := ?_) ?_ ?_
      rotate_left
      ·show Act.put _ (some 10) _ = _
       simp only [Act.put, List.setIfInBounds_toArray, List.set_cons_zero, List.set_cons_succ, i64_w, i32_w]
       rfl
      refine one_ (i := 8) (N := some 50) #[true, true, true, true, true, true, true, true, true, false, false, false, true, false, false] rfl rfl (by kernel_rfl) (by decide) (fun K hK => ?_)
      refine goes_ Try.func76 (by kernel_rfl) rfl #[.agg #[.int .i64 x0_0, .int .i64 x0_1, .int .i64 x0_2, .slice At0 x0_3.length ct0], .agg #[.int .i64 x1_0, .int .i64 x1_1, .int .i64 x1_2, .slice At1 x1_3.length ct1], .slice At2 x2_0.length ct2, .slice At3 x3_0.length ct3] (by rfl) rfl rfl (by simp only [List.map_toArray, List.map_cons, List.map_nil]; rfl) ?_
      with_reducible refine (spec_RedrawTiles.calls k x0_0 x0_1 x0_2 At0 ct0 x0_3 x1_0 x1_1 x1_2 At1 ct1 x1_3 At2 ct2 x2_0 At3 ct3 x3_0 v0 v1 v2 v3 vok _ HT_0.out HL_0.out HT_1.out HL_1.out HT_2.out HL_2.out HT_3.out HL_3.out HSP.out).mono ?_
      rintro e w9 ⟨vw_, rfl, hr_, hb_⟩
      refine ⟨_, rfl, ?_⟩
      have HZp_ := HZw
      have HBp_ := HB
      replace HB := mk (below_then HB.out HB.out.size hb_)
      replace Kgb0 := mk (blk_below Kgb0.out hb_)
      replace Kgb1 := mk (blk_below Kgb1.out hb_)
      replace HT_0 := mk (Kd.C_below HT_0.out hb_)
      replace HT_1 := mk (Kd.C_below HT_1.out hb_)
      replace HT_2 := mk (Kd.C_below HT_2.out hb_)
      replace HT_3 := mk (Kd.C_below HT_3.out hb_)
      replace KA_ := mk (blk_below KA_.out hb_)
      replace HZw := mk (Nat.le_trans HZw.out hb_.size)
      have Rw := mk (Kd.R_lower (Kd.R_mono (Kd.R_bound hr_) (fun k_ hk_ => (⟨Nat.le_trans HZp_.out hk_.2.1, hk_.2.2.1⟩ : wz2.heap.size ≤ k_ ∧ k_ < w9.heap.size))) HBp_.out.size)
      clear hr_ hb_ HZp_ HBp_
      refine hK.out _ _ ⟨((blk_cell Kgb0.out 0).trans rfl), ((blk_cell Kgb0.out 1).trans rfl), ((blk_cell Kgb0.out 2).trans rfl), ((blk_cell Kgb0.out 3).trans rfl), ((blk_cell Kgb1.out 0).trans rfl), ((blk_cell Kgb1.out 1).trans rfl), ((blk_cell Kgb1.out 2).trans rfl), ((blk_cell Kgb1.out 3).trans rfl)⟩ (fun hHeld => ?_)
      clear hK K
      refine norm_ (a' := ?_) ?_ ?_
      rotate_left
      ·show Act.put _ (some 50) _ = _
       simp only [Act.put, List.setIfInBounds_toArray, List.set_cons_zero, List.set_cons_succ, i64_w, i32_w]
       rfl
      refine pure_ (i := 9) (N := some 41) (v := ?_) (a' := ?_) #[true, true, true, true, true, true, true, true, true, true, false, false, true, false, false] rfl rfl (by kernel_rfl) (fun _ _ _ h => h) (Or.inl ⟨by rfl, ?_⟩) ?_ ?_
      rotate_left
      ·intro w'
       go_simp
       with_reducible rfl
      rotate_left
      ·simp only [Act.put, List.setIfInBounds_toArray, List.set_cons_zero, List.set_cons_succ, i64_w, i32_w]
       rfl
      refine pure_ (i := 10) (N := some 51) (v := ?_) (a' := ?_) #[true, true, true, true, true, true, true, true, true, true, true, false, true, false, false] rfl rfl (by kernel_rfl) (fun _ _ _ h => h) (Or.inl ⟨by rfl, ?_⟩) ?_ ?_
      rotate_left
      ·intro w'
       go_simp
       with_reducible rfl
      rotate_left
      ·simp only [Act.put, List.setIfInBounds_toArray, List.set_cons_zero, List.set_cons_succ, i64_w, i32_w]
       rfl
      refine pure_ (i := 11) (N := some 52) (v := ?_) (a' := ?_) #[true, true, true, true, true, true, true, true, true, true, true, true, true, false, false] rfl rfl (by kernel_rfl) (fun _ _ _ h => h) (Or.inl ⟨by rfl, ?_⟩) ?_ ?_
      rotate_left
      ·intro w'
       go_simp
       with_reducible rfl
      rotate_left
      ·simp only [Act.put, List.setIfInBounds_toArray, List.set_cons_zero, List.set_cons_succ, i64_w, i32_w]
       rfl
      exact norm_ (by (simp only [putAll, Act.put, List.setIfInBounds_toArray, List.set_cons_zero, List.set_cons_succ]; done)) (hCont (.slice At0 x0_3.length ct0, .slice At1 x1_3.length ct1, .slice At2 x2_0.length ct2, .slice At3 x3_0.length ct3, vw_, w5.heap.size) _ ⟨Rw.out, KA_.out, GA_.out, Kgb0.out, Kgb1.out, HB.out, HZw.out⟩)
     skip
     refine value_ (w1 := ?_) (v := ?_) (by rfl) rfl ?_ ?_
     rotate_left 2
     ·go_simp
      constructor
      ·rfl
      rfl
     replace HB := mk (below_alloc HB.out (.cells #[.int .i64 0, .int .i64 0, .int .i64 0, .slice none 0 0] 27))
     replace Kgb0 := mk (blk_alloc Kgb0.out (.cells #[.int .i64 0, .int .i64 0, .int .i64 0, .slice none 0 0] 27))
     replace Kgb1 := mk (blk_alloc Kgb1.out (.cells #[.int .i64 0, .int .i64 0, .int .i64 0, .slice none 0 0] 27))
     replace HT_0 := mk (Kd.C_alloc HT_0.out (.cells #[.int .i64 0, .int .i64 0, .int .i64 0, .slice none 0 0] 27))
     replace HT_1 := mk (Kd.C_alloc HT_1.out (.cells #[.int .i64 0, .int .i64 0, .int .i64 0, .slice none 0 0] 27))
     replace HT_2 := mk (Kd.C_alloc HT_2.out (.cells #[.int .i64 0, .int .i64 0, .int .i64 0, .slice none 0 0] 27))
     have KA_ := mk (blk_new w4 (.cells #[.int .i64 0, .int .i64 0, .int .i64 0, .slice none 0 0] 27 (0, 0)))
     have GA_ := HZw
     replace HZw := mk (Nat.le_trans HZw.out (below_alloc (Below.refl _ _) (.cells #[.int .i64 0, .int .i64 0, .int .i64 0, .slice none 0 0] 27)).size)
     refine hK.out _ _ ⟨((blk_cell Kgb0.out 0).trans rfl), ((blk_cell Kgb0.out 1).trans rfl), ((blk_cell Kgb0.out 2).trans rfl), ((blk_cell Kgb0.out 3).trans rfl), ((blk_cell Kgb1.out 0).trans rfl), ((blk_cell Kgb1.out 1).trans rfl), ((blk_cell Kgb1.out 2).trans rfl), ((blk_cell Kgb1.out 3).trans rfl)⟩ (fun hHeld => ?_)
     clear hK K
     refine norm_ (a' := ?_) ?_ ?_
     rotate_left
     ·show Act.put _ (some 10) _ = _
      simp only [Act.put, List.setIfInBounds_toArray, List.set_cons_zero, List.set_cons_succ, i64_w, i32_w]
      rfl
     refine one_ (i := 7) (N := some 49) #[true, true, true, true, true, true, true, true, false, false, false, false, true, false, false] rfl rfl (by kernel_rfl) (by decide) (fun K hK => ?_)
     refine goes_ Try.func77 (by kernel_rfl) rfl #[.slice A3_0 l3_0.length c3_0] (by rfl) rfl rfl (by simp only [List.map_toArray, List.map_cons, List.map_nil]; rfl) ?_
     with_reducible refine (laws_toIntS.calls k A3_0 c3_0 l3_0 x3_0 _ (Kd.C_below HR3.out HB.out) HC3.out HT3.out).mono ?_
     rintro e w11 ⟨vt_, rfl, hr_, hb_⟩
     refine ⟨_, rfl, ?_⟩
     replace HB := mk (below_then HB.out HB.out.size hb_)
     replace Kgb0 := mk (blk_below Kgb0.out hb_)
     replace Kgb1 := mk (blk_below Kgb1.out hb_)
     replace HT_0 := mk (Kd.C_below HT_0.out hb_)
     replace HT_1 := mk (Kd.C_below HT_1.out hb_)
     replace HT_2 := mk (Kd.C_below HT_2.out hb_)
     replace KA_ := mk (blk_below KA_.out hb_)
     replace HZw := mk (Nat.le_trans HZw.out hb_.size)
     obtain ⟨At3, ct3, rfl, hl_, hC_⟩ := Kd.R_reads hr_
     have HT_3 := mk hC_
     have HL_3 := mk hl_
     clear hr_ hb_ hl_ hC_
     refine hK.out _ _ ⟨((blk_cell Kgb0.out 0).trans rfl), ((blk_cell Kgb0.out 1).trans rfl), ((blk_cell Kgb0.out 2).trans rfl), ((blk_cell Kgb0.out 3).trans rfl), ((blk_cell Kgb1.out 0).trans rfl), ((blk_cell Kgb1.out 1).trans rfl), ((blk_cell Kgb1.out 2).trans rfl), ((blk_cell Kgb1.out 3).trans rfl)⟩ (fun hHeld => ?_)
     clear hK K
     refine norm_ (a' := ?_) ?_ ?_
     rotate_left
     ·show Act.put _ (some 49) _ = _
      simp only [Act.put, List.setIfInBounds_toArray, List.set_cons_zero, List.set_cons_succ, i64_w, i32_w]
      rfl
     refine one_ (i := 8) (N := some 50) #[true, true, true, true, true, true, true, true, true, false, false, false, true, false, false] rfl rfl (by kernel_rfl) (by decide) (fun K hK => ?_)
     refine goes_ Try.func76 (by kernel_rfl) rfl #[.agg #[.int .i64 x0_0, .int .i64 x0_1, .int .i64 x0_2, .slice At0 x0_3.length ct0], .agg #[.int .i64 x1_0, .int .i64 x1_1, .int .i64 x1_2, .slice At1 x1_3.length ct1], .slice At2 x2_0.length ct2, .slice At3 x3_0.length ct3] (by rfl) rfl rfl (by simp only [List.map_toArray, List.map_cons, List.map_nil]; rfl) ?_
     with_reducible refine (spec_RedrawTiles.calls k x0_0 x0_1 x0_2 At0 ct0 x0_3 x1_0 x1_1 x1_2 At1 ct1 x1_3 At2 ct2 x2_0 At3 ct3 x3_0 v0 v1 v2 v3 vok _ HT_0.out HL_0.out HT_1.out HL_1.out HT_2.out HL_2.out HT_3.out HL_3.out HSP.out).mono ?_
     rintro e w12 ⟨vw_, rfl, hr_, hb_⟩
     refine ⟨_, rfl, ?_⟩
     have HZp_ := HZw
     have HBp_ := HB
     replace HB := mk (below_then HB.out HB.out.size hb_)
     replace Kgb0 := mk (blk_below Kgb0.out hb_)
     replace Kgb1 := mk (blk_below Kgb1.out hb_)
     replace HT_0 := mk (Kd.C_below HT_0.out hb_)
     replace HT_1 := mk (Kd.C_below HT_1.out hb_)
     replace HT_2 := mk (Kd.C_below HT_2.out hb_)
     replace HT_3 := mk (Kd.C_below HT_3.out hb_)
     replace KA_ := mk (blk_below KA_.out hb_)
     replace HZw := mk (Nat.le_trans HZw.out hb_.size)
     have Rw := mk (Kd.R_lower (Kd.R_mono (Kd.R_bound hr_) (fun k_ hk_ => (⟨Nat.le_trans HZp_.out hk_.2.1, hk_.2.2.1⟩ : wz2.heap.size ≤ k_ ∧ k_ < w12.heap.size))) HBp_.out.size)
     clear hr_ hb_ HZp_ HBp_
     refine hK.out _ _ ⟨((blk_cell Kgb0.out 0).trans rfl), ((blk_cell Kgb0.out 1).trans rfl), ((blk_cell Kgb0.out 2).trans rfl), ((blk_cell Kgb0.out 3).trans rfl), ((blk_cell Kgb1.out 0).trans rfl), ((blk_cell Kgb1.out 1).trans rfl), ((blk_cell Kgb1.out 2).trans rfl), ((blk_cell Kgb1.out 3).trans rfl)⟩ (fun hHeld => ?_)
     clear hK K
     refine norm_ (a' := ?_) ?_ ?_
     rotate_left
     ·show Act.put _ (some 50) _ = _
      simp only [Act.put, List.setIfInBounds_toArray, List.set_cons_zero, List.set_cons_succ, i64_w, i32_w]
      rfl
     refine pure_ (i := 9) (N := some 41) (v := ?_) (a' := ?_) #[true, true, true, true, true, true, true, true, true, true, false, false, true, false, false] rfl rfl (by kernel_rfl) (fun _ _ _ h => h) (Or.inl ⟨by rfl, ?_⟩) ?_ ?_
     rotate_left
     ·intro w'
      go_simp
      with_reducible rfl
     rotate_left
     ·simp only [Act.put, List.setIfInBounds_toArray, List.set_cons_zero, List.set_cons_succ, i64_w, i32_w]
      rfl
     refine pure_ (i := 10) (N := some 51) (v := ?_) (a' := ?_) #[true, true, true, true, true, true, true, true, true, true, true, false, true, false, false] rfl rfl (by kernel_rfl) (fun _ _ _ h => h) (Or.inl ⟨by rfl, ?_⟩) ?_ ?_
     rotate_left
     ·intro w'
      go_simp
      with_reducible rfl
     rotate_left
     ·simp only [Act.put, List.setIfInBounds_toArray, List.set_cons_zero, List.set_cons_succ, i64_w, i32_w]
      rfl
     refine pure_ (i := 11) (N := some 52) (v := ?_) (a' := ?_) #[true, true, true, true, true, true, true, true, true, true, true, true, true, false, false] rfl rfl (by kernel_rfl) (fun _ _ _ h => h) (Or.inl ⟨by rfl, ?_⟩) ?_ ?_
     rotate_left
     ·intro w'
      go_simp
      with_reducible rfl
     rotate_left
     ·simp only [Act.put, List.setIfInBounds_toArray, List.set_cons_zero, List.set_cons_succ, i64_w, i32_w]
      rfl
     exact norm_ (by (simp only [putAll, Act.put, List.setIfInBounds_toArray, List.set_cons_zero, List.set_cons_succ]; done)) (hCont (.slice At0 x0_3.length ct0, .slice At1 x1_3.length ct1, .slice At2 x2_0.length ct2, .slice At3 x3_0.length ct3, vw_, w4.heap.size) _ ⟨Rw.out, KA_.out, GA_.out, Kgb0.out, Kgb1.out, HB.out, HZw.out⟩)
    skip
    refine value_ (w1 := ?_) (v := ?_) (by rfl) rfl ?_ ?_
    rotate_left 2
    ·go_simp
     constructor
     ·rfl
     rfl
    replace HB := mk (below_alloc HB.out (.cells #[.int .i64 0, .int .i64 0, .int .i64 0, .slice none 0 0] 27))
    replace Kgb0 := mk (blk_alloc Kgb0.out (.cells #[.int .i64 0, .int .i64 0, .int .i64 0, .slice none 0 0] 27))
    replace Kgb1 := mk (blk_alloc Kgb1.out (.cells #[.int .i64 0, .int .i64 0, .int .i64 0, .slice none 0 0] 27))
    replace HT_0 := mk (Kd.C_alloc HT_0.out (.cells #[.int .i64 0, .int .i64 0, .int .i64 0, .slice none 0 0] 27))
    replace HT_1 := mk (Kd.C_alloc HT_1.out (.cells #[.int .i64 0, .int .i64 0, .int .i64 0, .slice none 0 0] 27))
    have KA_ := mk (blk_new w3 (.cells #[.int .i64 0, .int .i64 0, .int .i64 0, .slice none 0 0] 27 (0, 0)))
    have GA_ := HZw
    replace HZw := mk (Nat.le_trans HZw.out (below_alloc (Below.refl _ _) (.cells #[.int .i64 0, .int .i64 0, .int .i64 0, .slice none 0 0] 27)).size)
    refine hK.out _ _ ⟨((blk_cell Kgb0.out 0).trans rfl), ((blk_cell Kgb0.out 1).trans rfl), ((blk_cell Kgb0.out 2).trans rfl), ((blk_cell Kgb0.out 3).trans rfl), ((blk_cell Kgb1.out 0).trans rfl), ((blk_cell Kgb1.out 1).trans rfl), ((blk_cell Kgb1.out 2).trans rfl), ((blk_cell Kgb1.out 3).trans rfl)⟩ (fun hHeld => ?_)
    clear hK K
    refine norm_ (a' := ?_) ?_ ?_
    rotate_left
    ·show Act.put _ (some 10) _ = _
     simp only [Act.put, List.setIfInBounds_toArray, List.set_cons_zero, List.set_cons_succ, i64_w, i32_w]
     rfl
    refine one_ (i := 5) (N := some 47) #[true, true, true, true, true, true, true, false, false, false, false, false, true, false, false] rfl rfl (by kernel_rfl) (by decide) (fun K hK => ?_)
    refine goes_ Try.func66 (by kernel_rfl) rfl #[.slice A2_0 l2_0.length c2_0] (by rfl) rfl rfl (by simp only [List.map_toArray, List.map_cons, List.map_nil]; rfl) ?_
    with_reducible refine (laws_toLayerS.calls k A2_0 c2_0 l2_0 x2_0 _ (Kd.C_below HR2.out HB.out) HC2.out HT2.out).mono ?_
    rintro e w14 ⟨vt_, rfl, hr_, hb_⟩
    refine ⟨_, rfl, ?_⟩
    replace HB := mk (below_then HB.out HB.out.size hb_)
    replace Kgb0 := mk (blk_below Kgb0.out hb_)
    replace Kgb1 := mk (blk_below Kgb1.out hb_)
    replace HT_0 := mk (Kd.C_below HT_0.out hb_)
    replace HT_1 := mk (Kd.C_below HT_1.out hb_)
    replace KA_ := mk (blk_below KA_.out hb_)
    replace HZw := mk (Nat.le_trans HZw.out hb_.size)
    obtain ⟨At2, ct2, rfl, hl_, hC_⟩ := Kd.S_reads hr_
    have HT_2 := mk hC_
    have HL_2 := mk hl_
    clear hr_ hb_ hl_ hC_
    refine hK.out _ _ ⟨((blk_cell Kgb0.out 0).trans rfl), ((blk_cell Kgb0.out 1).trans rfl), ((blk_cell Kgb0.out 2).trans rfl), ((blk_cell Kgb0.out 3).trans rfl), ((blk_cell Kgb1.out 0).trans rfl), ((blk_cell Kgb1.out 1).trans rfl), ((blk_cell Kgb1.out 2).trans rfl), ((blk_cell Kgb1.out 3).trans rfl)⟩ (fun hHeld => ?_)
    clear hK K
    refine norm_ (a' := ?_) ?_ ?_
    rotate_left
    ·show Act.put _ (some 47) _ = _
     simp only [Act.put, List.setIfInBounds_toArray, List.set_cons_zero, List.set_cons_succ, i64_w, i32_w]
     rfl
    refine one_ (i := 7) (N := some 49) #[true, true, true, true, true, true, true, true, false, false, false, false, true, false, false] rfl rfl (by kernel_rfl) (by decide) (fun K hK => ?_)
    refine goes_ Try.func77 (by kernel_rfl) rfl #[.slice A3_0 l3_0.length c3_0] (by rfl) rfl rfl (by simp only [List.map_toArray, List.map_cons, List.map_nil]; rfl) ?_
    with_reducible refine (laws_toIntS.calls k A3_0 c3_0 l3_0 x3_0 _ (Kd.C_below HR3.out HB.out) HC3.out HT3.out).mono ?_
    rintro e w15 ⟨vt_, rfl, hr_, hb_⟩
    refine ⟨_, rfl, ?_⟩
    replace HB := mk (below_then HB.out HB.out.size hb_)
    replace Kgb0 := mk (blk_below Kgb0.out hb_)
    replace Kgb1 := mk (blk_below Kgb1.out hb_)
    replace HT_0 := mk (Kd.C_below HT_0.out hb_)
    replace HT_1 := mk (Kd.C_below HT_1.out hb_)
    replace HT_2 := mk (Kd.C_below HT_2.out hb_)
    replace KA_ := mk (blk_below KA_.out hb_)
    replace HZw := mk (Nat.le_trans HZw.out hb_.size)
    obtain ⟨At3, ct3, rfl, hl_, hC_⟩ := Kd.R_reads hr_
    have HT_3 := mk hC_
    have HL_3 := mk hl_
    clear hr_ hb_ hl_ hC_
    refine hK.out _ _ ⟨((blk_cell Kgb0.out 0).trans rfl), ((blk_cell Kgb0.out 1).trans rfl), ((blk_cell Kgb0.out 2).trans rfl), ((blk_cell Kgb0.out 3).trans rfl), ((blk_cell Kgb1.out 0).trans rfl), ((blk_cell Kgb1.out 1).trans rfl), ((blk_cell Kgb1.out 2).trans rfl), ((blk_cell Kgb1.out 3).trans rfl)⟩ (fun hHeld => ?_)
    clear hK K
    refine norm_ (a' := ?_) ?_ ?_
    rotate_left
    ·show Act.put _ (some 49) _ = _
     simp only [Act.put, List.setIfInBounds_toArray, List.set_cons_zero, List.set_cons_succ, i64_w, i32_w]
     rfl
    refine one_ (i := 8) (N := some 50) #[true, true, true, true, true, true, true, true, true, false, false, false, true, false, false] rfl rfl (by kernel_rfl) (by decide) (fun K hK => ?_)
    refine goes_ Try.func76 (by kernel_rfl) rfl #[.agg #[.int .i64 x0_0, .int .i64 x0_1, .int .i64 x0_2, .slice At0 x0_3.length ct0], .agg #[.int .i64 x1_0, .int .i64 x1_1, .int .i64 x1_2, .slice At1 x1_3.length ct1], .slice At2 x2_0.length ct2, .slice At3 x3_0.length ct3] (by rfl) rfl rfl (by simp only [List.map_toArray, List.map_cons, List.map_nil]; rfl) ?_
    with_reducible refine (spec_RedrawTiles.calls k x0_0 x0_1 x0_2 At0 ct0 x0_3 x1_0 x1_1 x1_2 At1 ct1 x1_3 At2 ct2 x2_0 At3 ct3 x3_0 v0 v1 v2 v3 vok _ HT_0.out HL_0.out HT_1.out HL_1.out HT_2.out HL_2.out HT_3.out HL_3.out HSP.out).mono ?_
    rintro e w16 ⟨vw_, rfl, hr_, hb_⟩
    refine ⟨_, rfl, ?_⟩
    have HZp_ := HZw
    have HBp_ := HB
    replace HB := mk (below_then HB.out HB.out.size hb_)
    replace Kgb0 := mk (blk_below Kgb0.out hb_)
    replace Kgb1 := mk (blk_below Kgb1.out hb_)
    replace HT_0 := mk (Kd.C_below HT_0.out hb_)
    replace HT_1 := mk (Kd.C_below HT_1.out hb_)
    replace HT_2 := mk (Kd.C_below HT_2.out hb_)
    replace HT_3 := mk (Kd.C_below HT_3.out hb_)
    replace KA_ := mk (blk_below KA_.out hb_)
    replace HZw := mk (Nat.le_trans HZw.out hb_.size)
    have Rw := mk (Kd.R_lower (Kd.R_mono (Kd.R_bound hr_) (fun k_ hk_ => (⟨Nat.le_trans HZp_.out hk_.2.1, hk_.2.2.1⟩ : wz2.heap.size ≤ k_ ∧ k_ < w16.heap.size))) HBp_.out.size)
    clear hr_ hb_ HZp_ HBp_
    refine hK.out _ _ ⟨((blk_cell Kgb0.out 0).trans rfl), ((blk_cell Kgb0.out 1).trans rfl), ((blk_cell Kgb0.out 2).trans rfl), ((blk_cell Kgb0.out 3).trans rfl), ((blk_cell Kgb1.out 0).trans rfl), ((blk_cell Kgb1.out 1).trans rfl), ((blk_cell Kgb1.out 2).trans rfl), ((blk_cell Kgb1.out 3).trans rfl)⟩ (fun hHeld => ?_)
    clear hK K
    refine norm_ (a' := ?_) ?_ ?_
    rotate_left
    ·show Act.put _ (some 50) _ = _
     simp only [Act.put, List.setIfInBounds_toArray, List.set_cons_zero, List.set_cons_succ, i64_w, i32_w]
     rfl
    refine pure_ (i := 9) (N := some 41) (v := ?_) (a' := ?_) #[true, true, true, true, true, true, true, true, true, true, false, false, true, false, false] rfl rfl (by kernel_rfl) (fun _ _ _ h => h) (Or.inl ⟨by rfl, ?_⟩) ?_ ?_
    rotate_left
    ·intro w'
     go_simp
     with_reducible rfl
    rotate_left
    ·simp only [Act.put, List.setIfInBounds_toArray, List.set_cons_zero, List.set_cons_succ, i64_w, i32_w]
     rfl
    refine pure_ (i := 10) (N := some 51) (v := ?_) (a' := ?_) #[true, true, true, true, true, true, true, true, true, true, true, false, true, false, false] rfl rfl (by kernel_rfl) (fun _ _ _ h => h) (Or.inl ⟨by rfl, ?_⟩) ?_ ?_
    rotate_left
    ·intro w'
     go_simp
     with_reducible rfl
    rotate_left
    ·simp only [Act.put, List.setIfInBounds_toArray, List.set_cons_zero, List.set_cons_succ, i64_w, i32_w]
     rfl
    refine pure_ (i := 11) (N := some 52) (v := ?_) (a' := ?_) #[true, true, true, true, true, true, true, true, true, true, true, true, true, false, false] rfl rfl (by kernel_rfl) (fun _ _ _ h => h) (Or.inl ⟨by rfl, ?_⟩) ?_ ?_
    rotate_left
    ·intro w'
     go_simp
     with_reducible rfl
    rotate_left
    ·simp only [Act.put, List.setIfInBounds_toArray, List.set_cons_zero, List.set_cons_succ, i64_w, i32_w]
     rfl
    exact norm_ (by (simp only [putAll, Act.put, List.setIfInBounds_toArray, List.set_cons_zero, List.set_cons_succ]; done)) (hCont (.slice At0 x0_3.length ct0, .slice At1 x1_3.length ct1, .slice At2 x2_0.length ct2, .slice At3 x3_0.length ct3, vw_, w3.heap.size) _ ⟨Rw.out, KA_.out, GA_.out, Kgb0.out, Kgb1.out, HB.out, HZw.out⟩)
   skip
   refine value_ (w1 := ?_) (v := ?_) (by rfl) rfl ?_ ?_
   rotate_left 2
   ·go_simp
    constructor
    ·rfl
    rfl
   replace HB := mk (below_alloc HB.out (.cells #[.int .i64 0, .int .i64 0, .int .i64 0, .slice none 0 0] 27))
   replace Kgb0 := mk (blk_alloc Kgb0.out (.cells #[.int .i64 0, .int .i64 0, .int .i64 0, .slice none 0 0] 27))
   replace Kgb1 := mk (blk_alloc Kgb1.out (.cells #[.int .i64 0, .int .i64 0, .int .i64 0, .slice none 0 0] 27))
   replace HT_0 := mk (Kd.C_alloc HT_0.out (.cells #[.int .i64 0, .int .i64 0, .int .i64 0, .slice none 0 0] 27))
   have KA_ := mk (blk_new w2 (.cells #[.int .i64 0, .int .i64 0, .int .i64 0, .slice none 0 0] 27 (0, 0)))
   have GA_ := HZw
   replace HZw := mk (Nat.le_trans HZw.out (below_alloc (Below.refl _ _) (.cells #[.int .i64 0, .int .i64 0, .int .i64 0, .slice none 0 0] 27)).size)
   refine hK.out _ _ ⟨((blk_cell Kgb0.out 0).trans rfl), ((blk_cell Kgb0.out 1).trans rfl), ((blk_cell Kgb0.out 2).trans rfl), ((blk_cell Kgb0.out 3).trans rfl), ((blk_cell Kgb1.out 0).trans rfl), ((blk_cell Kgb1.out 1).trans rfl), ((blk_cell Kgb1.out 2).trans rfl), ((blk_cell Kgb1.out 3).trans rfl)⟩ (fun hHeld => ?_)
   clear hK K
   refine norm_ (a' := ?_) ?_ ?_
   rotate_left
   ·show Act.put _ (some 10) _ = _
    simp only [Act.put, List.setIfInBounds_toArray, List.set_cons_zero, List.set_cons_succ, i64_w, i32_w]
    rfl
   refine one_ (i := 3) (N := some 45) #[true, true, true, true, true, false, true, false, false, false, false, false, true, false, false] rfl rfl (by kernel_rfl) (by decide) (fun K hK => ?_)
   refine goes_ Try.func22 (by kernel_rfl) rfl #[.agg #[.int .i64 a1_0, .int .i64 a1_1, .int .i64 a1_2, .slice A1_3 l1_3.length c1_3]] (by rfl) rfl rfl (by simp only [List.map_toArray, List.map_cons, List.map_nil]; rfl) ?_
   with_reducible refine (laws_toImage.calls k a1_0 a1_1 a1_2 A1_3 c1_3 l1_3 x1_0 x1_1 x1_2 x1_3 _ (Kd.C_below HR1.out HB.out) HC1.out HT1.out).mono ?_
   rintro e w18 ⟨vt_, rfl, hr_, hb_⟩
   refine ⟨_, rfl, ?_⟩
   replace HB := mk (below_then HB.out HB.out.size hb_)
   replace Kgb0 := mk (blk_below Kgb0.out hb_)
   replace Kgb1 := mk (blk_below Kgb1.out hb_)
   replace HT_0 := mk (Kd.C_below HT_0.out hb_)
   replace KA_ := mk (blk_below KA_.out hb_)
   replace HZw := mk (Nat.le_trans HZw.out hb_.size)
   obtain ⟨At1, ct1, rfl, hl_, hC_⟩ := Kd.R_reads hr_
   have HT_1 := mk hC_
   have HL_1 := mk hl_
   clear hr_ hb_ hl_ hC_
   refine hK.out _ _ ⟨((blk_cell Kgb0.out 0).trans rfl), ((blk_cell Kgb0.out 1).trans rfl), ((blk_cell Kgb0.out 2).trans rfl), ((blk_cell Kgb0.out 3).trans rfl), ((blk_cell Kgb1.out 0).trans rfl), ((blk_cell Kgb1.out 1).trans rfl), ((blk_cell Kgb1.out 2).trans rfl), ((blk_cell Kgb1.out 3).trans rfl)⟩ (fun hHeld => ?_)
   clear hK K
   refine norm_ (a' := ?_) ?_ ?_
   rotate_left
   ·show Act.put _ (some 45) _ = _
    simp only [Act.put, List.setIfInBounds_toArray, List.set_cons_zero, List.set_cons_succ, i64_w, i32_w]
    rfl
   refine one_ (i := 5) (N := some 47) #[true, true, true, true, true, true, true, false, false, false, false, false, true, false, false] rfl rfl (by kernel_rfl) (by decide) (fun K hK => ?_)
   refine goes_ Try.func66 (by kernel_rfl) rfl #[.slice A2_0 l2_0.length c2_0] (by rfl) rfl rfl (by simp only [List.map_toArray, List.map_cons, List.map_nil]; rfl) ?_
   with_reducible refine (laws_toLayerS.calls k A2_0 c2_0 l2_0 x2_0 _ (Kd.C_below HR2.out HB.out) HC2.out HT2.out).mono ?_
   rintro e w19 ⟨vt_, rfl, hr_, hb_⟩
   refine ⟨_, rfl, ?_⟩
   replace HB := mk (below_then HB.out HB.out.size hb_)
   replace Kgb0 := mk (blk_below Kgb0.out hb_)
   replace Kgb1 := mk (blk_below Kgb1.out hb_)
   replace HT_0 := mk (Kd.C_below HT_0.out hb_)
   replace HT_1 := mk (Kd.C_below HT_1.out hb_)
   replace KA_ := mk (blk_below KA_.out hb_)
   replace HZw := mk (Nat.le_trans HZw.out hb_.size)
   obtain ⟨At2, ct2, rfl, hl_, hC_⟩ := Kd.S_reads hr_
   have HT_2 := mk hC_
   have HL_2 := mk hl_
   clear hr_ hb_ hl_ hC_
   refine hK.out _ _ ⟨((blk_cell Kgb0.out 0).trans rfl), ((blk_cell Kgb0.out 1).trans rfl), ((blk_cell Kgb0.out 2).trans rfl), ((blk_cell Kgb0.out 3).trans rfl), ((blk_cell Kgb1.out 0).trans rfl), ((blk_cell Kgb1.out 1).trans rfl), ((blk_cell Kgb1.out 2).trans rfl), ((blk_cell Kgb1.out 3).trans rfl)⟩ (fun hHeld => ?_)
   clear hK K
   refine norm_ (a' := ?_) ?_ ?_
   rotate_left
   ·show Act.put _ (some 47) _ = _
    simp only [Act.put, List.setIfInBounds_toArray, List.set_cons_zero, List.set_cons_succ, i64_w, i32_w]
    rfl
   refine one_ (i := 7) (N := some 49) #[true, true, true, true, true, true, true, true, false, false, false, false, true, false, false] rfl rfl (by kernel_rfl) (by decide) (fun K hK => ?_)
   refine goes_ Try.func77 (by kernel_rfl) rfl #[.slice A3_0 l3_0.length c3_0] (by rfl) rfl rfl (by simp only [List.map_toArray, List.map_cons, List.map_nil]; rfl) ?_
   with_reducible refine (laws_toIntS.calls k A3_0 c3_0 l3_0 x3_0 _ (Kd.C_below HR3.out HB.out) HC3.out HT3.out).mono ?_
   rintro e w20 ⟨vt_, rfl, hr_, hb_⟩
   refine ⟨_, rfl, ?_⟩
   replace HB := mk (below_then HB.out HB.out.size hb_)
   replace Kgb0 := mk (blk_below Kgb0.out hb_)
   replace Kgb1 := mk (blk_below Kgb1.out hb_)
   replace HT_0 := mk (Kd.C_below HT_0.out hb_)
   replace HT_1 := mk (Kd.C_below HT_1.out hb_)
   replace HT_2 := mk (Kd.C_below HT_2.out hb_)
   replace KA_ := mk (blk_below KA_.out hb_)
   replace HZw := mk (Nat.le_trans HZw.out hb_.size)
   obtain ⟨At3, ct3, rfl, hl_, hC_⟩ := Kd.R_reads hr_
   have HT_3 := mk hC_
   have HL_3 := mk hl_
   clear hr_ hb_ hl_ hC_
   refine hK.out _ _ ⟨((blk_cell Kgb0.out 0).trans rfl), ((blk_cell Kgb0.out 1).trans rfl), ((blk_cell Kgb0.out 2).trans rfl), ((blk_cell Kgb0.out 3).trans rfl), ((blk_cell Kgb1.out 0).trans rfl), ((blk_cell Kgb1.out 1).trans rfl), ((blk_cell Kgb1.out 2).trans rfl), ((blk_cell Kgb1.out 3).trans rfl)⟩ (fun hHeld => ?_)
   clear hK K
   refine norm_ (a' := ?_) ?_ ?_
   rotate_left
   ·show Act.put _ (some 49) _ = _
    simp only [Act.put, List.setIfInBounds_toArray, List.set_cons_zero, List.set_cons_succ, i64_w, i32_w]
    rfl
   refine one_ (i := 8) (N := some 50) #[true, true, true, true, true, true, true, true, true, false, false, false, true, false, false] rfl rfl (by kernel_rfl) (by decide) (fun K hK => ?_)
   refine goes_ Try.func76 (by kernel_rfl) rfl #[.agg #[.int .i64 x0_0, .int .i64 x0_1, .int .i64 x0_2, .slice At0 x0_3.length ct0], .agg #[.int .i64 x1_0, .int .i64 x1_1, .int .i64 x1_2, .slice At1 x1_3.length ct1], .slice At2 x2_0.length ct2, .slice At3 x3_0.length ct3] (by rfl) rfl rfl (by simp only [List.map_toArray, List.map_cons, List.map_nil]; rfl) ?_
   with_reducible refine (spec_RedrawTiles.calls k x0_0 x0_1 x0_2 At0 ct0 x0_3 x1_0 x1_1 x1_2 At1 ct1 x1_3 At2 ct2 x2_0 At3 ct3 x3_0 v0 v1 v2 v3 vok _ HT_0.out HL_0.out HT_1.out HL_1.out HT_2.out HL_2.out HT_3.out HL_3.out HSP.out).mono ?_
   rintro e w21 ⟨vw_, rfl, hr_, hb_⟩
   refine ⟨_, rfl, ?_⟩
   have HZp_ := HZw
   have HBp_ := HB
   replace HB := mk (below_then HB.out HB.out.size hb_)
   replace Kgb0 := mk (blk_below Kgb0.out hb_)
   replace Kgb1 := mk (blk_below Kgb1.out hb_)
   replace HT_0 := mk (Kd.C_below HT_0.out hb_)
   replace HT_1 := mk (Kd.C_below HT_1.out hb_)
   replace HT_2 := mk (Kd.C_below HT_2.out hb_)
   replace HT_3 := mk (Kd.C_below HT_3.out hb_)
   replace KA_ := mk (blk_below KA_.out hb_)
   replace HZw := mk (Nat.le_trans HZw.out hb_.size)
   have Rw := mk (Kd.R_lower (Kd.R_mono (Kd.R_bound hr_) (fun k_ hk_ => (⟨Nat.le_trans HZp_.out hk_.2.1, hk_.2.2.1⟩ : wz2.heap.size ≤ k_ ∧ k_ < w21.heap.size))) HBp_.out.size)
   clear hr_ hb_ HZp_ HBp_
   refine hK.out _ _ ⟨((blk_cell Kgb0.out 0).trans rfl), ((blk_cell Kgb0.out 1).trans rfl), ((blk_cell Kgb0.out 2).trans rfl), ((blk_cell Kgb0.out 3).trans rfl), ((blk_cell Kgb1.out 0).trans rfl), ((blk_cell Kgb1.out 1).trans rfl), ((blk_cell Kgb1.out 2).trans rfl), ((blk_cell Kgb1.out 3).trans rfl)⟩ (fun hHeld => ?_)
   clear hK K
   refine norm_ (a' := ?_) ?_ ?_
   rotate_left
   ·show Act.put _ (some 50) _ = _
    simp only [Act.put, List.setIfInBounds_toArray, List.set_cons_zero, List.set_cons_succ, i64_w, i32_w]
    rfl
   refine pure_ (i := 9) (N := some 41) (v := ?_) (a' := ?_) #[true, true, true, true, true, true, true, true, true, true, false, false, true, false, false] rfl rfl (by kernel_rfl) (fun _ _ _ h => h) (Or.inl ⟨by rfl, ?_⟩) ?_ ?_
   rotate_left
   ·intro w'
    go_simp
    with_reducible rfl
   rotate_left
   ·simp only [Act.put, List.setIfInBounds_toArray, List.set_cons_zero, List.set_cons_succ, i64_w, i32_w]
    rfl
   refine pure_ (i := 10) (N := some 51) (v := ?_) (a' := ?_) #[true, true, true, true, true, true, true, true, true, true, true, false, true, false, false] rfl rfl (by kernel_rfl) (fun _ _ _ h => h) (Or.inl ⟨by rfl, ?_⟩) ?_ ?_
   rotate_left
   ·intro w'
    go_simp
    with_reducible rfl
   rotate_left
   ·simp only [Act.put, List.setIfInBounds_toArray, List.set_cons_zero, List.set_cons_succ, i64_w, i32_w]
    rfl
   refine pure_ (i := 11) (N := some 52) (v := ?_) (a' := ?_) #[true, true, true, true, true, true, true, true, true, true, true, true, true, false, false] rfl rfl (by kernel_rfl) (fun _ _ _ h => h) (Or.inl ⟨by rfl, ?_⟩) ?_ ?_
   rotate_left
   ·intro w'
    go_simp
    with_reducible rfl
   rotate_left
   ·simp only [Act.put, List.setIfInBounds_toArray, List.set_cons_zero, List.set_cons_succ, i64_w, i32_w]
    rfl
   exact norm_ (by (simp only [putAll, Act.put, List.setIfInBounds_toArray, List.set_cons_zero, List.set_cons_succ]; done)) (hCont (.slice At0 x0_3.length ct0, .slice At1 x1_3.length ct1, .slice At2 x2_0.length ct2, .slice At3 x3_0.length ct3, vw_, w2.heap.size) _ ⟨Rw.out, KA_.out, GA_.out, Kgb0.out, Kgb1.out, HB.out, HZw.out⟩)
  skip
  refine value_ (w1 := ?_) (v := ?_) (by rfl) rfl ?_ ?_
  rotate_left 2
  ·go_simp
   constructor
   ·rfl
   rfl
  replace HB := mk (below_alloc HB.out (.cells #[.int .i64 0, .int .i64 0, .int .i64 0, .slice none 0 0] 27))
  replace Kgb0 := mk (blk_alloc Kgb0.out (.cells #[.int .i64 0, .int .i64 0, .int .i64 0, .slice none 0 0] 27))
  replace Kgb1 := mk (blk_alloc Kgb1.out (.cells #[.int .i64 0, .int .i64 0, .int .i64 0, .slice none 0 0] 27))
  have KA_ := mk (blk_new wz2.drew (.cells #[.int .i64 0, .int .i64 0, .int .i64 0, .slice none 0 0] 27 (0, 0)))
  have GA_ := HZw
  replace HZw := mk (Nat.le_trans HZw.out (below_alloc (Below.refl _ _) (.cells #[.int .i64 0, .int .i64 0, .int .i64 0, .slice none 0 0] 27)).size)
  refine hK.out _ _ ⟨((blk_cell Kgb0.out 0).trans rfl), ((blk_cell Kgb0.out 1).trans rfl), ((blk_cell Kgb0.out 2).trans rfl), ((blk_cell Kgb0.out 3).trans rfl), ((blk_cell Kgb1.out 0).trans rfl), ((blk_cell Kgb1.out 1).trans rfl), ((blk_cell Kgb1.out 2).trans rfl), ((blk_cell Kgb1.out 3).trans rfl)⟩ (fun hHeld => ?_)
  clear hK K
  refine norm_ (a' := ?_) ?_ ?_
  rotate_left
  ·show Act.put _ (some 10) _ = _
   simp only [Act.put, List.setIfInBounds_toArray, List.set_cons_zero, List.set_cons_succ, i64_w, i32_w]
   rfl
  refine one_ (i := 1) (N := some 43) #[true, true, true, false, true, false, true, false, false, false, false, false, true, false, false] rfl rfl (by kernel_rfl) (by decide) (fun K hK => ?_)
  refine goes_ Try.func22 (by kernel_rfl) rfl #[.agg #[.int .i64 a0_0, .int .i64 a0_1, .int .i64 a0_2, .slice A0_3 l0_3.length c0_3]] (by rfl) rfl rfl (by simp only [List.map_toArray, List.map_cons, List.map_nil]; rfl) ?_
  refine (laws_toImage.calls k a0_0 a0_1 a0_2 A0_3 c0_3 l0_3 x0_0 x0_1 x0_2 x0_3 _ (Kd.C_below HR0.out HB.out) HC0.out HT0.out).mono ?_
  rintro e w23 ⟨vt_, rfl, hr_, hb_⟩
  refine ⟨_, rfl, ?_⟩
  replace HB := mk (below_then HB.out HB.out.size hb_)
  replace Kgb0 := mk (blk_below Kgb0.out hb_)
  replace Kgb1 := mk (blk_below Kgb1.out hb_)
  replace KA_ := mk (blk_below KA_.out hb_)
  replace HZw := mk (Nat.le_trans HZw.out hb_.size)
  obtain ⟨At0, ct0, rfl, hl_, hC_⟩ := Kd.R_reads hr_
  have HT_0 := mk hC_
  have HL_0 := mk hl_
  clear hr_ hb_ hl_ hC_
  refine hK.out _ _ ⟨((blk_cell Kgb0.out 0).trans rfl), ((blk_cell Kgb0.out 1).trans rfl), ((blk_cell Kgb0.out 2).trans rfl), ((blk_cell Kgb0.out 3).trans rfl), ((blk_cell Kgb1.out 0).trans rfl), ((blk_cell Kgb1.out 1).trans rfl), ((blk_cell Kgb1.out 2).trans rfl), ((blk_cell Kgb1.out 3).trans rfl)⟩ (fun hHeld => ?_)
  clear hK K
  refine norm_ (a' := ?_) ?_ ?_
  rotate_left
  ·show Act.put _ (some 43) _ = _
   simp only [Act.put, List.setIfInBounds_toArray, List.set_cons_zero, List.set_cons_succ, i64_w, i32_w]
   rfl
  refine one_ (i := 3) (N := some 45) #[true, true, true, true, true, false, true, false, false, false, false, false, true, false, false] rfl rfl (by kernel_rfl) (by decide) (fun K hK => ?_)
  refine goes_ Try.func22 (by kernel_rfl) rfl #[.agg #[.int .i64 a1_0, .int .i64 a1_1, .int .i64 a1_2, .slice A1_3 l1_3.length c1_3]] (by rfl) rfl rfl (by simp only [List.map_toArray, List.map_cons, List.map_nil]; rfl) ?_
  with_reducible refine (laws_toImage.calls k a1_0 a1_1 a1_2 A1_3 c1_3 l1_3 x1_0 x1_1 x1_2 x1_3 _ (Kd.C_below HR1.out HB.out) HC1.out HT1.out).mono ?_
  rintro e w24 ⟨vt_, rfl, hr_, hb_⟩
  refine ⟨_, rfl, ?_⟩
  replace HB := mk (below_then HB.out HB.out.size hb_)
  replace Kgb0 := mk (blk_below Kgb0.out hb_)
  replace Kgb1 := mk (blk_below Kgb1.out hb_)
  replace HT_0 := mk (Kd.C_below HT_0.out hb_)
  replace KA_ := mk (blk_below KA_.out hb_)
  replace HZw := mk (Nat.le_trans HZw.out hb_.size)
  obtain ⟨At1, ct1, rfl, hl_, hC_⟩ := Kd.R_reads hr_
  have HT_1 := mk hC_
  have HL_1 := mk hl_
  clear hr_ hb_ hl_ hC_
  refine hK.out _ _ ⟨((blk_cell Kgb0.out 0).trans rfl), ((blk_cell Kgb0.out 1).trans rfl), ((blk_cell Kgb0.out 2).trans rfl), ((blk_cell Kgb0.out 3).trans rfl), ((blk_cell Kgb1.out 0).trans rfl), ((blk_cell Kgb1.out 1).trans rfl), ((blk_cell Kgb1.out 2).trans rfl), ((blk_cell Kgb1.out 3).trans rfl)⟩ (fun hHeld => ?_)
  clear hK K
  refine norm_ (a' := ?_) ?_ ?_
  rotate_left
  ·show Act.put _ (some 45) _ = _
   simp only [Act.put, List.setIfInBounds_toArray, List.set_cons_zero, List.set_cons_succ, i64_w, i32_w]
   rfl
  refine one_ (i := 5) (N := some 47) #[true, true, true, true, true, true, true, false, false, false, false, false, true, false, false] rfl rfl (by kernel_rfl) (by decide) (fun K hK => ?_)
  refine goes_ Try.func66 (by kernel_rfl) rfl #[.slice A2_0 l2_0.length c2_0] (by rfl) rfl rfl (by simp only [List.map_toArray, List.map_cons, List.map_nil]; rfl) ?_
  with_reducible refine (laws_toLayerS.calls k A2_0 c2_0 l2_0 x2_0 _ (Kd.C_below HR2.out HB.out) HC2.out HT2.out).mono ?_
  rintro e w25 ⟨vt_, rfl, hr_, hb_⟩
  refine ⟨_, rfl, ?_⟩
  replace HB := mk (below_then HB.out HB.out.size hb_)
  replace Kgb0 := mk (blk_below Kgb0.out hb_)
  replace Kgb1 := mk (blk_below Kgb1.out hb_)
  replace HT_0 := mk (Kd.C_below HT_0.out hb_)
  replace HT_1 := mk (Kd.C_below HT_1.out hb_)
  replace KA_ := mk (blk_below KA_.out hb_)
  replace HZw := mk (Nat.le_trans HZw.out hb_.size)
  obtain ⟨At2, ct2, rfl, hl_, hC_⟩ := Kd.S_reads hr_
  have HT_2 := mk hC_
  have HL_2 := mk hl_
  clear hr_ hb_ hl_ hC_
  refine hK.out _ _ ⟨((blk_cell Kgb0.out 0).trans rfl), ((blk_cell Kgb0.out 1).trans rfl), ((blk_cell Kgb0.out 2).trans rfl), ((blk_cell Kgb0.out 3).trans rfl), ((blk_cell Kgb1.out 0).trans rfl), ((blk_cell Kgb1.out 1).trans rfl), ((blk_cell Kgb1.out 2).trans rfl), ((blk_cell Kgb1.out 3).trans rfl)⟩ (fun hHeld => ?_)
  clear hK K
  refine norm_ (a' := ?_) ?_ ?_
  rotate_left
  ·show Act.put _ (some 47) _ = _
   simp only [Act.put, List.setIfInBounds_toArray, List.set_cons_zero, List.set_cons_succ, i64_w, i32_w]
   rfl
  refine one_ (i := 7) (N := some 49) #[true, true, true, true, true, true, true, true, false, false, false, false, true, false, false] rfl rfl (by kernel_rfl) (by decide) (fun K hK => ?_)
  refine goes_ Try.func77 (by kernel_rfl) rfl #[.slice A3_0 l3_0.length c3_0] (by rfl) rfl rfl (by simp only [List.map_toArray, List.map_cons, List.map_nil]; rfl) ?_
  with_reducible refine (laws_toIntS.calls k A3_0 c3_0 l3_0 x3_0 _ (Kd.C_below HR3.out HB.out) HC3.out HT3.out).mono ?_
  rintro e w26 ⟨vt_, rfl, hr_, hb_⟩
  refine ⟨_, rfl, ?_⟩
  replace HB := mk (below_then HB.out HB.out.size hb_)
  replace Kgb0 := mk (blk_below Kgb0.out hb_)
  replace Kgb1 := mk (blk_below Kgb1.out hb_)
  replace HT_0 := mk (Kd.C_below HT_0.out hb_)
  replace HT_1 := mk (Kd.C_below HT_1.out hb_)
  replace HT_2 := mk (Kd.C_below HT_2.out hb_)
  replace KA_ := mk (blk_below KA_.out hb_)
  replace HZw := mk (Nat.le_trans HZw.out hb_.size)
  obtain ⟨At3, ct3, rfl, hl_, hC_⟩ := Kd.R_reads hr_
  have HT_3 := mk hC_
  have HL_3 := mk hl_
  clear hr_ hb_ hl_ hC_
  refine hK.out _ _ ⟨((blk_cell Kgb0.out 0).trans rfl), ((blk_cell Kgb0.out 1).trans rfl), ((blk_cell Kgb0.out 2).trans rfl), ((blk_cell Kgb0.out 3).trans rfl), ((blk_cell Kgb1.out 0).trans rfl), ((blk_cell Kgb1.out 1).trans rfl), ((blk_cell Kgb1.out 2).trans rfl), ((blk_cell Kgb1.out 3).trans rfl)⟩ (fun hHeld => ?_)
  clear hK K
  refine norm_ (a' := ?_) ?_ ?_
  rotate_left
  ·show Act.put _ (some 49) _ = _
   simp only [Act.put, List.setIfInBounds_toArray, List.set_cons_zero, List.set_cons_succ, i64_w, i32_w]
   rfl
  refine one_ (i := 8) (N := some 50) #[true, true, true, true, true, true, true, true, true, false, false, false, true, false, false] rfl rfl (by kernel_rfl) (by decide) (fun K hK => ?_)
  refine goes_ Try.func76 (by kernel_rfl) rfl #[.agg #[.int .i64 x0_0, .int .i64 x0_1, .int .i64 x0_2, .slice At0 x0_3.length ct0], .agg #[.int .i64 x1_0, .int .i64 x1_1, .int .i64 x1_2, .slice At1 x1_3.length ct1], .slice At2 x2_0.length ct2, .slice At3 x3_0.length ct3] (by rfl) rfl rfl (by simp only [List.map_toArray, List.map_cons, List.map_nil]; rfl) ?_
  with_reducible refine (spec_RedrawTiles.calls k x0_0 x0_1 x0_2 At0 ct0 x0_3 x1_0 x1_1 x1_2 At1 ct1 x1_3 At2 ct2 x2_0 At3 ct3 x3_0 v0 v1 v2 v3 vok _ HT_0.out HL_0.out HT_1.out HL_1.out HT_2.out HL_2.out HT_3.out HL_3.out HSP.out).mono ?_
  rintro e w27 ⟨vw_, rfl, hr_, hb_⟩
  refine ⟨_, rfl, ?_⟩
  have HZp_ := HZw
  have HBp_ := HB
  replace HB := mk (below_then HB.out HB.out.size hb_)
  replace Kgb0 := mk (blk_below Kgb0.out hb_)
  replace Kgb1 := mk (blk_below Kgb1.out hb_)
  replace HT_0 := mk (Kd.C_below HT_0.out hb_)
  replace HT_1 := mk (Kd.C_below HT_1.out hb_)
  replace HT_2 := mk (Kd.C_below HT_2.out hb_)
  replace HT_3 := mk (Kd.C_below HT_3.out hb_)
  replace KA_ := mk (blk_below KA_.out hb_)
  replace HZw := mk (Nat.le_trans HZw.out hb_.size)
  have Rw := mk (Kd.R_lower (Kd.R_mono (Kd.R_bound hr_) (fun k_ hk_ => (⟨Nat.le_trans HZp_.out hk_.2.1, hk_.2.2.1⟩ : wz2.heap.size ≤ k_ ∧ k_ < w27.heap.size))) HBp_.out.size)
  clear hr_ hb_ HZp_ HBp_
  refine hK.out _ _ ⟨((blk_cell Kgb0.out 0).trans rfl), ((blk_cell Kgb0.out 1).trans rfl), ((blk_cell Kgb0.out 2).trans rfl), ((blk_cell Kgb0.out 3).trans rfl), ((blk_cell Kgb1.out 0).trans rfl), ((blk_cell Kgb1.out 1).trans rfl), ((blk_cell Kgb1.out 2).trans rfl), ((blk_cell Kgb1.out 3).trans rfl)⟩ (fun hHeld => ?_)
  clear hK K
  refine norm_ (a' := ?_) ?_ ?_
  rotate_left
  ·show Act.put _ (some 50) _ = _
   simp only [Act.put, List.setIfInBounds_toArray, List.set_cons_zero, List.set_cons_succ, i64_w, i32_w]
   rfl
  refine pure_ (i := 9) (N := some 41) (v := ?_) (a' := ?_) #[true, true, true, true, true, true, true, true, true, true, false, false, true, false, false] rfl rfl (by kernel_rfl) (fun _ _ _ h => h) (Or.inl ⟨by rfl, ?_⟩) ?_ ?_
  rotate_left
  ·intro w'
   go_simp
   with_reducible rfl
  rotate_left
  ·simp only [Act.put, List.setIfInBounds_toArray, List.set_cons_zero, List.set_cons_succ, i64_w, i32_w]
   rfl
  refine pure_ (i := 10) (N := some 51) (v := ?_) (a' := ?_) #[true, true, true, true, true, true, true, true, true, true, true, false, true, false, false] rfl rfl (by kernel_rfl) (fun _ _ _ h => h) (Or.inl ⟨by rfl, ?_⟩) ?_ ?_
  rotate_left
  ·intro w'
   go_simp
   with_reducible rfl
  rotate_left
  ·simp only [Act.put, List.setIfInBounds_toArray, List.set_cons_zero, List.set_cons_succ, i64_w, i32_w]
   rfl
  refine pure_ (i := 11) (N := some 52) (v := ?_) (a' := ?_) #[true, true, true, true, true, true, true, true, true, true, true, true, true, false, false] rfl rfl (by kernel_rfl) (fun _ _ _ h => h) (Or.inl ⟨by rfl, ?_⟩) ?_ ?_
  rotate_left
  ·intro w'
   go_simp
   with_reducible rfl
  rotate_left
  ·simp only [Act.put, List.setIfInBounds_toArray, List.set_cons_zero, List.set_cons_succ, i64_w, i32_w]
   rfl
  exact norm_ (by (simp only [putAll, Act.put, List.setIfInBounds_toArray, List.set_cons_zero, List.set_cons_succ]; rfl)) (hCont (.slice At0 x0_3.length ct0, .slice At1 x1_3.length ct1, .slice At2 x2_0.length ct2, .slice At3 x3_0.length ct3, vw_, wz2.drew.heap.size) _ ⟨Rw.out, KA_.out, GA_.out, Kgb0.out, Kgb1.out, HB.out, HZw.out⟩)
 rintro ⟨vt0_w, vt1_w, vt2_w, vt3_w, vvw, gw⟩ w1 ⟨hR_, hA_, hg_, hk_0, hk_1, hB_, hZ_⟩
 dsimp only at hR_ hA_ hg_
 obtain ⟨Aw, cw, ev_⟩ := Kd.R_slice hR_
 subst ev_
 have Rw := mk hR_
 have Kgw := mk hA_
 have Zgw := mk hg_
 have HB := mk hB_
 have HZw := mk hZ_
 have Kgb0 := mk hk_0
 have Kgb1 := mk hk_1
 clear hR_ hA_ hg_ hB_ hZ_ hk_0 hk_1
 have hHeld : w1.cell? ⟨gb0, 0, none⟩ = some (.int .i64 a0_0) ∧ w1.cell? ⟨gb0, 1, none⟩ = some (.int .i64 a0_1) ∧ w1.cell? ⟨gb0, 2, none⟩ = some (.int .i64 a0_2) ∧ w1.cell? ⟨gb0, 3, none⟩ = some (.slice A0_3 l0_3.length c0_3) ∧ w1.cell? ⟨gb1, 0, none⟩ = some (.int .i64 a1_0) ∧ w1.cell? ⟨gb1, 1, none⟩ = some (.int .i64 a1_1) ∧ w1.cell? ⟨gb1, 2, none⟩ = some (.int .i64 a1_2) ∧ w1.cell? ⟨gb1, 3, none⟩ = some (.slice A1_3 l1_3.length c1_3) := ⟨((blk_cell Kgb0.out 0).trans rfl), ((blk_cell Kgb0.out 1).trans rfl), ((blk_cell Kgb0.out 2).trans rfl), ((blk_cell Kgb0.out 3).trans rfl), ((blk_cell Kgb1.out 0).trans rfl), ((blk_cell Kgb1.out 1).trans rfl), ((blk_cell Kgb1.out 2).trans rfl), ((blk_cell Kgb1.out 3).trans rfl)⟩
 refine norm_ (a' := ?_) ?_ ?_
 rotate_left
 ·simp only [putAll, Act.put, List.setIfInBounds_toArray, List.set_cons_zero, List.set_cons_succ]
  rfl
 refine one_ (i := 13) (N := none) #[true, true, true, true, true, true, true, true, true, true, true, true, true, true, false] rfl rfl (by kernel_rfl) (by decide) (fun K hK => ?_)
 obtain ⟨-, -, -, -, qgw0, qgw1, qgw2, qgw3⟩ := c4 Kgw.out
 have cgw0 := (blk_cell Kgw.out 0).trans rfl
 have cgw1 := (blk_cell Kgw.out 1).trans rfl
 have cgw2 := (blk_cell Kgw.out 2).trans rfl
 have cgw3 := (blk_cell Kgw.out 3).trans rfl
 refine skip_ (w1 := ?_) (by rfl) rfl ?_ ?_
 rotate_left
 ·go_simp
  rfl
 clear qgw0 cgw0 qgw1 cgw1 qgw2 cgw2 qgw3 cgw3
 have Kgb0_ := mk (blk_far (p := ⟨gw, 3, none⟩) (blk_far (p := ⟨gw, 2, none⟩) (blk_far (p := ⟨gw, 1, none⟩) (blk_far (p := ⟨gw, 0, none⟩) Kgb0.out (show gb0 ≠ gw by have := Zgw.out; have := QKgb0.out; omega) (.int .i64 v0)) (show gb0 ≠ gw by have := Zgw.out; have := QKgb0.out; omega) (.int .i64 v1)) (show gb0 ≠ gw by have := Zgw.out; have := QKgb0.out; omega) (.int .i64 v2)) (show gb0 ≠ gw by have := Zgw.out; have := QKgb0.out; omega) (.slice Aw v3.length cw))
 have Kgb1_ := mk (blk_far (p := ⟨gw, 3, none⟩) (blk_far (p := ⟨gw, 2, none⟩) (blk_far (p := ⟨gw, 1, none⟩) (blk_far (p := ⟨gw, 0, none⟩) Kgb1.out (show gb1 ≠ gw by have := Zgw.out; have := QKgb1.out; omega) (.int .i64 v0)) (show gb1 ≠ gw by have := Zgw.out; have := QKgb1.out; omega) (.int .i64 v1)) (show gb1 ≠ gw by have := Zgw.out; have := QKgb1.out; omega) (.int .i64 v2)) (show gb1 ≠ gw by have := Zgw.out; have := QKgb1.out; omega) (.slice Aw v3.length cw))
 refine hK.out _ _ ⟨((blk_cell Kgb0_.out 0).trans rfl), ((blk_cell Kgb0_.out 1).trans rfl), ((blk_cell Kgb0_.out 2).trans rfl), ((blk_cell Kgb0_.out 3).trans rfl), ((blk_cell Kgb1_.out 0).trans rfl), ((blk_cell Kgb1_.out 1).trans rfl), ((blk_cell Kgb1_.out 2).trans rfl), ((blk_cell Kgb1_.out 3).trans rfl)⟩ (fun hHeld => ?_)
 clear hK K
 refine pure_ (i := 14) (N := some 11) (v := ?_) (a' := ?_) #[true, true, true, true, true, true, true, true, true, true, true, true, true, true, true] rfl rfl (by kernel_rfl) (fun _ _ _ h => h) (Or.inl ⟨by rfl, ?_⟩) ?_ ?_
 rotate_left
 ·intro w'
  go_simp
  with_reducible rfl
 rotate_left
 ·simp only [Act.put, List.setIfInBounds_toArray, List.set_cons_zero, List.set_cons_succ, i64_w, i32_w]
  rfl
 refine done_ (by kernel_rfl) ?_
 obtain ⟨w28, hw28⟩ : ∃ W, W = ((((w1.setCell ⟨gw, 0, none⟩ (.int .i64 v0)).setCell ⟨gw, 1, none⟩ (.int .i64 v1)).setCell ⟨gw, 2, none⟩ (.int .i64 v2)).setCell ⟨gw, 3, none⟩ (.slice Aw v3.length cw)) := ⟨_, rfl⟩
 rw [← hw28]
 have HGgw := mk (Nat.le_trans HB.out.size (Nat.le_refl _))
 replace HB := mk (show Below w.heap.size w w28 from by rw [hw28]; exact (below_set (below_set (below_set (below_set HB.out (Nat.le_trans HBSw.out Zgw.out)) (Nat.le_trans HBSw.out Zgw.out)) (Nat.le_trans HBSw.out Zgw.out)) (Nat.le_trans HBSw.out Zgw.out)))
 have NZw := mk (show wz2.heap.size ≤ w28.heap.size from by rw [hw28]; exact Nat.le_trans HZw.out (by simp [World.setCell]))
 have ZLgw := mk (show gw < w28.heap.size from by rw [hw28]; exact Nat.lt_of_lt_of_le (blk_lt Kgw.out) (by simp [World.setCell]))
 replace Rw := mk (show Kd.R (Kd.int .i64) 3 w28 w.heap.size (fun k_ => wz2.heap.size ≤ k_ ∧ k_ < w28.heap.size) (.slice Aw v3.length cw) v3 from by rw [hw28]; exact Kd.R_mono (Kd.R_far (Kd.R_far (Kd.R_far (Kd.R_far (Kd.R_types Rw.out Kgw.out (by decide)) (fun k hk => hk.2) _) (fun k hk => hk.2) _) (fun k hk => hk.2) _) (fun k hk => hk.2) _) (fun k hk => ⟨hk.1.1, Nat.lt_of_lt_of_le hk.1.2 (by simp [World.setCell])⟩))
 replace Kgb0 := mk (show w28.heap[gb0]? = some (.cells #[.int .i64 a0_0, .int .i64 a0_1, .int .i64 a0_2, .slice A0_3 l0_3.length c0_3] 24 (0, 0)) from by rw [hw28]; exact Kgb0_.out)
 replace Kgb1 := mk (show w28.heap[gb1]? = some (.cells #[.int .i64 a1_0, .int .i64 a1_1, .int .i64 a1_2, .slice A1_3 l1_3.length c1_3] 24 (0, 0)) from by rw [hw28]; exact Kgb1_.out)
 replace Kgw := mk (show w28.heap[gw]? = some (.cells #[.int .i64 v0, .int .i64 v1, .int .i64 v2, .slice Aw v3.length cw] 27 (0, 0)) from by rw [hw28]; refine blk_put (cs := #[.int .i64 v0, .int .i64 v1, .int .i64 v2, .slice none 0 0]) ?_ 3 _ rfl; refine blk_put (cs := #[.int .i64 v0, .int .i64 v1, .int .i64 0, .slice none 0 0]) ?_ 2 _ rfl; refine blk_put (cs := #[.int .i64 v0, .int .i64 0, .int .i64 0, .slice none 0 0]) ?_ 1 _ rfl; refine blk_put (cs := #[.int .i64 0, .int .i64 0, .int .i64 0, .slice none 0 0]) ?_ 0 _ rfl; exact Kgw.out)
 clear hw28
 have cgb0w28_0 : w28.cell? ⟨gb0, 0, none⟩ = some (.int .i64 a0_0) := (blk_cell Kgb0.out 0).trans rfl; obtain ⟨-, cgb0w28_1, cgb0w28_2, cgb0w28_3, -⟩ := c4 Kgb0.out
 go_upto_region 15 with (first
  | (go_at_call 22; (with_reducible refine (laws_toImage.calls k a0_0 a0_1 a0_2 A0_3 c0_3 l0_3 x0_0 x0_1 x0_2 x0_3 w28 (Kd.C_below HR0.out HB.out) HC0.out HT0.out).mono ?_); rintro e w29 ⟨v_, rfl, hr, hb⟩; obtain ⟨Ax0, cx0, ev_⟩ := Kd.R_slice hr; subst ev_; have Rx0 := mk (Kd.R_lower (Kd.R_mono (Kd.R_bound hr) (fun k_ hk_ => (⟨hk_.2.1, hk_.2.2.1⟩ : w28.heap.size ≤ k_ ∧ k_ < w29.heap.size))) HB.out.size); replace HB := mk (below_then HB.out HB.out.size hb); replace Kgb0 := mk (blk_below Kgb0.out hb); replace Kgb1 := mk (blk_below Kgb1.out hb); replace Kgw := mk (blk_below Kgw.out hb); replace Rw := mk (Kd.R_below Rw.out hb); have Zw29 := mk hb.size; clear hr hb))
 obtain ⟨w30, hw30⟩ : ∃ W, W = w29.alloc (.cells #[.int .i64 x0_0, .int .i64 x0_1, .int .i64 x0_2, .slice Ax0 x0_3.length cx0] 27) := ⟨_, rfl⟩
 obtain ⟨gx0, hgx0⟩ : ∃ g, g = w29.heap.size := ⟨_, rfl⟩
 rw [← hw30, ← hgx0]
 have Kgx0 := mk (show w30.heap[gx0]? = some (.cells #[.int .i64 x0_0, .int .i64 x0_1, .int .i64 x0_2, .slice Ax0 x0_3.length cx0] 27 (0, 0)) from by rw [hw30, hgx0]; exact blk_new _ _)
 replace HB := mk (show Below w.heap.size w w30 from by rw [hw30]; exact below_alloc HB.out _)
 replace Kgb0 := mk (show w30.heap[gb0]? = some (.cells #[.int .i64 a0_0, .int .i64 a0_1, .int .i64 a0_2, .slice A0_3 l0_3.length c0_3] 24 (0, 0)) from by rw [hw30]; exact blk_alloc Kgb0.out _)
 replace Kgb1 := mk (show w30.heap[gb1]? = some (.cells #[.int .i64 a1_0, .int .i64 a1_1, .int .i64 a1_2, .slice A1_3 l1_3.length c1_3] 24 (0, 0)) from by rw [hw30]; exact blk_alloc Kgb1.out _)
 replace Kgw := mk (show w30.heap[gw]? = some (.cells #[.int .i64 v0, .int .i64 v1, .int .i64 v2, .slice Aw v3.length cw] 27 (0, 0)) from by rw [hw30]; exact blk_alloc Kgw.out _)
 replace Rw := mk (show Kd.R (Kd.int .i64) 3 w30 w.heap.size (fun k_ => wz2.heap.size ≤ k_ ∧ k_ < w28.heap.size) (.slice Aw v3.length cw) v3 from by rw [hw30]; exact Kd.R_alloc Rw.out _)
 replace Rx0 := mk (show Kd.R (Kd.int .i64) 3 w30 w.heap.size (fun k_ => w28.heap.size ≤ k_ ∧ k_ < w29.heap.size) (.slice Ax0 x0_3.length cx0) x0_3 from by rw [hw30]; exact Kd.R_alloc Rx0.out _)
 have Zw30 := mk (show w29.heap.size < w30.heap.size from by rw [hw30]; simp [World.size_alloc])
 have Zgx0 := mk (show w29.heap.size ≤ gx0 from Nat.le_of_eq hgx0.symm)
 have ZLgx0 := mk (blk_lt Kgx0.out)
 clear hw30 hgx0
 have cgb1w30_0 : w30.cell? ⟨gb1, 0, none⟩ = some (.int .i64 a1_0) := (blk_cell Kgb1.out 0).trans rfl; obtain ⟨-, cgb1w30_1, cgb1w30_2, cgb1w30_3, -⟩ := c4 Kgb1.out
 go_upto_region 16 with (first
  | (go_at_call 22; (with_reducible refine (laws_toImage.calls k a1_0 a1_1 a1_2 A1_3 c1_3 l1_3 x1_0 x1_1 x1_2 x1_3 w30 (Kd.C_below HR1.out HB.out) HC1.out HT1.out).mono ?_); rintro e w31 ⟨v_, rfl, hr, hb⟩; obtain ⟨Ax1, cx1, ev_⟩ := Kd.R_slice hr; subst ev_; have Rx1 := mk (Kd.R_lower (Kd.R_mono (Kd.R_bound hr) (fun k_ hk_ => (⟨hk_.2.1, hk_.2.2.1⟩ : w30.heap.size ≤ k_ ∧ k_ < w31.heap.size))) HB.out.size); replace HB := mk (below_then HB.out HB.out.size hb); replace Kgb0 := mk (blk_below Kgb0.out hb); replace Kgb1 := mk (blk_below Kgb1.out hb); replace Kgw := mk (blk_below Kgw.out hb); replace Kgx0 := mk (blk_below Kgx0.out hb); replace Rw := mk (Kd.R_below Rw.out hb); replace Rx0 := mk (Kd.R_below Rx0.out hb); have Zw31 := mk hb.size; clear hr hb))
 obtain ⟨w32, hw32⟩ : ∃ W, W = w31.alloc (.cells #[.int .i64 x1_0, .int .i64 x1_1, .int .i64 x1_2, .slice Ax1 x1_3.length cx1] 27) := ⟨_, rfl⟩
 obtain ⟨gx1, hgx1⟩ : ∃ g, g = w31.heap.size := ⟨_, rfl⟩
 rw [← hw32, ← hgx1]
 have Kgx1 := mk (show w32.heap[gx1]? = some (.cells #[.int .i64 x1_0, .int .i64 x1_1, .int .i64 x1_2, .slice Ax1 x1_3.length cx1] 27 (0, 0)) from by rw [hw32, hgx1]; exact blk_new _ _)
 replace HB := mk (show Below w.heap.size w w32 from by rw [hw32]; exact below_alloc HB.out _)
 replace Kgb0 := mk (show w32.heap[gb0]? = some (.cells #[.int .i64 a0_0, .int .i64 a0_1, .int .i64 a0_2, .slice A0_3 l0_3.length c0_3] 24 (0, 0)) from by rw [hw32]; exact blk_alloc Kgb0.out _)
 replace Kgb1 := mk (show w32.heap[gb1]? = some (.cells #[.int .i64 a1_0, .int .i64 a1_1, .int .i64 a1_2, .slice A1_3 l1_3.length c1_3] 24 (0, 0)) from by rw [hw32]; exact blk_alloc Kgb1.out _)
 replace Kgw := mk (show w32.heap[gw]? = some (.cells #[.int .i64 v0, .int .i64 v1, .int .i64 v2, .slice Aw v3.length cw] 27 (0, 0)) from by rw [hw32]; exact blk_alloc Kgw.out _)
 replace Kgx0 := mk (show w32.heap[gx0]? = some (.cells #[.int .i64 x0_0, .int .i64 x0_1, .int .i64 x0_2, .slice Ax0 x0_3.length cx0] 27 (0, 0)) from by rw [hw32]; exact blk_alloc Kgx0.out _)
 replace Rw := mk (show Kd.R (Kd.int .i64) 3 w32 w.heap.size (fun k_ => wz2.heap.size ≤ k_ ∧ k_ < w28.heap.size) (.slice Aw v3.length cw) v3 from by rw [hw32]; exact Kd.R_alloc Rw.out _)
 replace Rx0 := mk (show Kd.R (Kd.int .i64) 3 w32 w.heap.size (fun k_ => w28.heap.size ≤ k_ ∧ k_ < w29.heap.size) (.slice Ax0 x0_3.length cx0) x0_3 from by rw [hw32]; exact Kd.R_alloc Rx0.out _)
 replace Rx1 := mk (show Kd.R (Kd.int .i64) 3 w32 w.heap.size (fun k_ => w30.heap.size ≤ k_ ∧ k_ < w31.heap.size) (.slice Ax1 x1_3.length cx1) x1_3 from by rw [hw32]; exact Kd.R_alloc Rx1.out _)
 have Zw32 := mk (show w31.heap.size < w32.heap.size from by rw [hw32]; simp [World.size_alloc])
 have Zgx1 := mk (show w31.heap.size ≤ gx1 from Nat.le_of_eq hgx1.symm)
 have ZLgx1 := mk (blk_lt Kgx1.out)
 clear hw32 hgx1
 go_upto_region 17 with (first
  | (go_at_call 66; (with_reducible refine (laws_toLayerS.calls k A2_0 c2_0 l2_0 x2_0 w32 (Kd.C_below HR2.out HB.out) HC2.out HT2.out).mono ?_); rintro e w33 ⟨v_, rfl, hr, hb⟩; obtain ⟨Ax2, cx2, ev_⟩ := Kd.S_slice hr; subst ev_; have Rx2 := mk (Kd.S_lower (Kd.S_mono (Kd.S_bound hr) (fun k_ hk_ => (⟨hk_.2.1, hk_.2.2.1⟩ : w32.heap.size ≤ k_ ∧ k_ < w33.heap.size))) HB.out.size); replace HB := mk (below_then HB.out HB.out.size hb); replace Kgb0 := mk (blk_below Kgb0.out hb); replace Kgb1 := mk (blk_below Kgb1.out hb); replace Kgw := mk (blk_below Kgw.out hb); replace Kgx0 := mk (blk_below Kgx0.out hb); replace Kgx1 := mk (blk_below Kgx1.out hb); replace Rw := mk (Kd.R_below Rw.out hb); replace Rx0 := mk (Kd.R_below Rx0.out hb); replace Rx1 := mk (Kd.R_below Rx1.out hb); have Zw33 := mk hb.size; clear hr hb))
 go_upto_region 18 with (first
  | (go_at_call 77; (with_reducible refine (laws_toIntS.calls k A3_0 c3_0 l3_0 x3_0 w33 (Kd.C_below HR3.out HB.out) HC3.out HT3.out).mono ?_); rintro e w34 ⟨v_, rfl, hr, hb⟩; obtain ⟨Ax3, cx3, ev_⟩ := Kd.R_slice hr; subst ev_; have Rx3 := mk (Kd.R_lower (Kd.R_mono (Kd.R_bound hr) (fun k_ hk_ => (⟨hk_.2.1, hk_.2.2.1⟩ : w33.heap.size ≤ k_ ∧ k_ < w34.heap.size))) HB.out.size); replace HB := mk (below_then HB.out HB.out.size hb); replace Kgb0 := mk (blk_below Kgb0.out hb); replace Kgb1 := mk (blk_below Kgb1.out hb); replace Kgw := mk (blk_below Kgw.out hb); replace Kgx0 := mk (blk_below Kgx0.out hb); replace Kgx1 := mk (blk_below Kgx1.out hb); replace Rw := mk (Kd.R_below Rw.out hb); replace Rx0 := mk (Kd.R_below Rx0.out hb); replace Rx1 := mk (Kd.R_below Rx1.out hb); replace Rx2 := mk (Kd.S_below Rx2.out hb); have Zw34 := mk hb.size; clear hr hb))
 have cgx0w34_0 : w34.cell? ⟨gx0, 0, none⟩ = some (.int .i64 x0_0) := (blk_cell Kgx0.out 0).trans rfl; obtain ⟨-, cgx0w34_1, cgx0w34_2, cgx0w34_3, -⟩ := c4 Kgx0.out
 have cgx1w34_0 : w34.cell? ⟨gx1, 0, none⟩ = some (.int .i64 x1_0) := (blk_cell Kgx1.out 0).trans rfl; obtain ⟨-, cgx1w34_1, cgx1w34_2, cgx1w34_3, -⟩ := c4 Kgx1.out
 go_upto_region 19 with (first
  | (go_at_call 78; (with_reducible refine (impl_RedrawTiles.calls k x0_0 x0_1 x0_2 Ax0 cx0 x0_3 x1_0 x1_1 x1_2 Ax1 cx1 x1_3 Ax2 cx2 x2_0 Ax3 cx3 x3_0 v0 v1 v2 v3 vok w34 (Kd.R_reads' Rx0.out).2.2 (Kd.R_reads' Rx0.out).2.1 (Kd.R_reads' Rx1.out).2.2 (Kd.R_reads' Rx1.out).2.1 (Kd.S_reads' Rx2.out).2.2 (Kd.S_reads' Rx2.out).2.1 (Kd.R_reads' Rx3.out).2.2 (Kd.R_reads' Rx3.out).2.1 HIM.out).mono ?_); rintro e w35 ⟨v_, rfl, hr, hb⟩; obtain ⟨Ag, cg, ev_⟩ := Kd.R_slice hr; subst ev_; have Rg := mk (Kd.R_lower (Kd.R_mono (Kd.R_bound hr) (fun k_ hk_ => (⟨hk_.2.1, hk_.2.2.1⟩ : w34.heap.size ≤ k_ ∧ k_ < w35.heap.size))) HB.out.size); replace HB := mk (below_then HB.out HB.out.size hb); replace Kgb0 := mk (blk_below Kgb0.out hb); replace Kgb1 := mk (blk_below Kgb1.out hb); replace Kgw := mk (blk_below Kgw.out hb); replace Kgx0 := mk (blk_below Kgx0.out hb); replace Kgx1 := mk (blk_below Kgx1.out hb); replace Rw := mk (Kd.R_below Rw.out hb); replace Rx0 := mk (Kd.R_below Rx0.out hb); replace Rx1 := mk (Kd.R_below Rx1.out hb); replace Rx2 := mk (Kd.S_below Rx2.out hb); replace Rx3 := mk (Kd.R_below Rx3.out hb); have Zw35 := mk hb.size; clear hr hb))
 obtain ⟨w36, hw36⟩ : ∃ W, W = w35.alloc (.cells #[.int .i64 v0, .int .i64 v1, .int .i64 v2, .slice Ag v3.length cg] 27) := ⟨_, rfl⟩
 obtain ⟨gg, hgg⟩ : ∃ g, g = w35.heap.size := ⟨_, rfl⟩
 rw [← hw36, ← hgg]
 have Kgg := mk (show w36.heap[gg]? = some (.cells #[.int .i64 v0, .int .i64 v1, .int .i64 v2, .slice Ag v3.length cg] 27 (0, 0)) from by rw [hw36, hgg]; exact blk_new _ _)
 replace HB := mk (show Below w.heap.size w w36 from by rw [hw36]; exact below_alloc HB.out _)
 replace Kgb0 := mk (show w36.heap[gb0]? = some (.cells #[.int .i64 a0_0, .int .i64 a0_1, .int .i64 a0_2, .slice A0_3 l0_3.length c0_3] 24 (0, 0)) from by rw [hw36]; exact blk_alloc Kgb0.out _)
 replace Kgb1 := mk (show w36.heap[gb1]? = some (.cells #[.int .i64 a1_0, .int .i64 a1_1, .int .i64 a1_2, .slice A1_3 l1_3.length c1_3] 24 (0, 0)) from by rw [hw36]; exact blk_alloc Kgb1.out _)
 replace Kgw := mk (show w36.heap[gw]? = some (.cells #[.int .i64 v0, .int .i64 v1, .int .i64 v2, .slice Aw v3.length cw] 27 (0, 0)) from by rw [hw36]; exact blk_alloc Kgw.out _)
 replace Kgx0 := mk (show w36.heap[gx0]? = some (.cells #[.int .i64 x0_0, .int .i64 x0_1, .int .i64 x0_2, .slice Ax0 x0_3.length cx0] 27 (0, 0)) from by rw [hw36]; exact blk_alloc Kgx0.out _)
 replace Kgx1 := mk (show w36.heap[gx1]? = some (.cells #[.int .i64 x1_0, .int .i64 x1_1, .int .i64 x1_2, .slice Ax1 x1_3.length cx1] 27 (0, 0)) from by rw [hw36]; exact blk_alloc Kgx1.out _)
 replace Rw := mk (show Kd.R (Kd.int .i64) 3 w36 w.heap.size (fun k_ => wz2.heap.size ≤ k_ ∧ k_ < w28.heap.size) (.slice Aw v3.length cw) v3 from by rw [hw36]; exact Kd.R_alloc Rw.out _)
 replace Rx0 := mk (show Kd.R (Kd.int .i64) 3 w36 w.heap.size (fun k_ => w28.heap.size ≤ k_ ∧ k_ < w29.heap.size) (.slice Ax0 x0_3.length cx0) x0_3 from by rw [hw36]; exact Kd.R_alloc Rx0.out _)
 replace Rx1 := mk (show Kd.R (Kd.int .i64) 3 w36 w.heap.size (fun k_ => w30.heap.size ≤ k_ ∧ k_ < w31.heap.size) (.slice Ax1 x1_3.length cx1) x1_3 from by rw [hw36]; exact Kd.R_alloc Rx1.out _)
 replace Rx2 := mk (show Kd.S k55 55 w36 w.heap.size (fun k_ => w32.heap.size ≤ k_ ∧ k_ < w33.heap.size) (.slice Ax2 x2_0.length cx2) x2_0 from by rw [hw36]; exact Kd.S_alloc Rx2.out _)
 replace Rx3 := mk (show Kd.R (Kd.int .i64) 3 w36 w.heap.size (fun k_ => w33.heap.size ≤ k_ ∧ k_ < w34.heap.size) (.slice Ax3 x3_0.length cx3) x3_0 from by rw [hw36]; exact Kd.R_alloc Rx3.out _)
 replace Rg := mk (show Kd.R (Kd.int .i64) 3 w36 w.heap.size (fun k_ => w34.heap.size ≤ k_ ∧ k_ < w35.heap.size) (.slice Ag v3.length cg) v3 from by rw [hw36]; exact Kd.R_alloc Rg.out _)
 have Zw36 := mk (show w35.heap.size < w36.heap.size from by rw [hw36]; simp [World.size_alloc])
 have Zgg := mk (show w35.heap.size ≤ gg from Nat.le_of_eq hgg.symm)
 have ZLgg := mk (blk_lt Kgg.out)
 clear hw36 hgg
 have hbn : (vok != vok) = false := by simp
 have cggw36_0 : w36.cell? ⟨gg, 0, none⟩ = some (.int .i64 v0) := (blk_cell Kgg.out 0).trans rfl; obtain ⟨-, cggw36_1, cggw36_2, cggw36_3, -⟩ := c4 Kgg.out
 have cgww36_0 : w36.cell? ⟨gw, 0, none⟩ = some (.int .i64 v0) := (blk_cell Kgw.out 0).trans rfl; obtain ⟨-, cgww36_1, cgww36_2, cgww36_3, -⟩ := c4 Kgw.out
 go_upto_region 21 with (first
  | (go_at_call 24; (with_reducible refine (laws_eqImage.calls k v0 v1 v2 Ag cg v3 v0 v1 v2 Aw cw v3 true w36 (Kd.R_reads' Rg.out).2.2 (Kd.R_reads' Rg.out).2.1 (Kd.R_reads' Rw.out).2.2 (Kd.R_reads' Rw.out).2.1 HEV.out rfl).mono ?_); rintro e w37 ⟨rfl, hb⟩; replace HB := mk (below_then HB.out HB.out.size hb); replace Kgb0 := mk (blk_below Kgb0.out hb); replace Kgb1 := mk (blk_below Kgb1.out hb); replace Kgw := mk (blk_below Kgw.out hb); replace Kgx0 := mk (blk_below Kgx0.out hb); replace Kgx1 := mk (blk_below Kgx1.out hb); replace Kgg := mk (blk_below Kgg.out hb); replace Rw := mk (Kd.R_below Rw.out hb); replace Rx0 := mk (Kd.R_below Rx0.out hb); replace Rx1 := mk (Kd.R_below Rx1.out hb); replace Rx2 := mk (Kd.S_below Rx2.out hb); replace Rx3 := mk (Kd.R_below Rx3.out hb); replace Rg := mk (Kd.R_below Rg.out hb); have Zw37 := mk hb.size; clear hb))
 replace HB := mk (below_drew HB.out)
 replace Kgb0 := mk (blk_below Kgb0.out (below_drew (Below.refl _ _)))
 replace Kgb1 := mk (blk_below Kgb1.out (below_drew (Below.refl _ _)))
 replace Kgw := mk (blk_below Kgw.out (below_drew (Below.refl _ _)))
 replace Kgx0 := mk (blk_below Kgx0.out (below_drew (Below.refl _ _)))
 replace Kgx1 := mk (blk_below Kgx1.out (below_drew (Below.refl _ _)))
 replace Kgg := mk (blk_below Kgg.out (below_drew (Below.refl _ _)))
 replace Rw := mk (Kd.R_drew Rw.out)
 replace Rx0 := mk (Kd.R_drew Rx0.out)
 replace Rx1 := mk (Kd.R_drew Rx1.out)
 replace Rx2 := mk (Kd.S_drew Rx2.out)
 replace Rx3 := mk (Kd.R_drew Rx3.out)
 replace Rg := mk (Kd.R_drew Rg.out)
 refine start_ (n := 5) (S := fun w' => w'.cell? ⟨gx0, 0, none⟩ = some (.int .i64 x0_0) ∧ w'.cell? ⟨gx0, 1, none⟩ = some (.int .i64 x0_1) ∧ w'.cell? ⟨gx0, 2, none⟩ = some (.int .i64 x0_2) ∧ w'.cell? ⟨gx0, 3, none⟩ = some (.slice Ax0 x0_3.length cx0) ∧ w'.cell? ⟨gb0, 0, none⟩ = some (.int .i64 a0_0) ∧ w'.cell? ⟨gb0, 1, none⟩ = some (.int .i64 a0_1) ∧ w'.cell? ⟨gb0, 2, none⟩ = some (.int .i64 a0_2) ∧ w'.cell? ⟨gb0, 3, none⟩ = some (.slice A0_3 l0_3.length c0_3)) (ds := []) #[false, false, false, false, false] (by kernel_rfl) rfl rfl ⟨((blk_cell Kgx0.out 0).trans rfl), ((blk_cell Kgx0.out 1).trans rfl), ((blk_cell Kgx0.out 2).trans rfl), ((blk_cell Kgx0.out 3).trans rfl), ((blk_cell Kgb0.out 0).trans rfl), ((blk_cell Kgb0.out 1).trans rfl), ((blk_cell Kgb0.out 2).trans rfl), ((blk_cell Kgb0.out 3).trans rfl)⟩ (fun hHeld => ?_)
 refine take_ (i := 0) (N := some 78) (v := ?_) (a' := ?_) #[true, false, false, false, false] rfl rfl (by kernel_rfl) (fun _ _ _ h => h) (Or.inl ⟨by rfl, ?_⟩) hHeld ?_ ?_
 rotate_left
 ·rintro w' ⟨s0, s1, s2, s3, s4, s5, s6, s7⟩
  go_simp
  with_reducible rfl
 rotate_left
 ·simp only [Act.put, List.setIfInBounds_toArray, List.set_cons_zero, List.set_cons_succ, i64_w, i32_w]
  rfl
 refine take_ (i := 1) (N := some 79) (v := ?_) (a' := ?_) #[true, true, false, false, false] rfl rfl (by kernel_rfl) (fun _ _ _ h => h) (Or.inl ⟨by rfl, ?_⟩) hHeld ?_ ?_
 rotate_left
 ·rintro w' ⟨s0, s1, s2, s3, s4, s5, s6, s7⟩
  go_simp
  with_reducible rfl
 rotate_left
 ·simp only [Act.put, List.setIfInBounds_toArray, List.set_cons_zero, List.set_cons_succ, i64_w, i32_w]
  rfl
 refine one_ (i := 2) (N := some 80) #[true, true, true, false, false] rfl rfl (by kernel_rfl) (by decide) (fun K hK => ?_)
 refine goes_ Try.func22 (by kernel_rfl) rfl #[.agg #[.int .i64 a0_0, .int .i64 a0_1, .int .i64 a0_2, .slice A0_3 l0_3.length c0_3]] (by rfl) rfl rfl (by simp only [List.map_toArray, List.map_cons, List.map_nil]; rfl) ?_
 with_reducible refine (laws_toImage.calls k a0_0 a0_1 a0_2 A0_3 c0_3 l0_3 x0_0 x0_1 x0_2 x0_3 _ (Kd.C_below HR0.out HB.out) HC0.out HT0.out).mono ?_
 rintro e w38 ⟨vt_, rfl, hr_, hb_⟩
 refine ⟨_, rfl, ?_⟩
 obtain ⟨At_, ct_, rfl, hl_, hC_⟩ := Kd.R_reads hr_
 replace HB := mk (below_then HB.out HB.out.size hb_)
 replace Kgb0 := mk (blk_below Kgb0.out hb_)
 replace Kgb1 := mk (blk_below Kgb1.out hb_)
 replace Kgw := mk (blk_below Kgw.out hb_)
 replace Kgx0 := mk (blk_below Kgx0.out hb_)
 replace Kgx1 := mk (blk_below Kgx1.out hb_)
 replace Kgg := mk (blk_below Kgg.out hb_)
 replace Rw := mk (Kd.R_below Rw.out hb_)
 replace Rx0 := mk (Kd.R_below Rx0.out hb_)
 replace Rx1 := mk (Kd.R_below Rx1.out hb_)
 replace Rx2 := mk (Kd.S_below Rx2.out hb_)
 replace Rx3 := mk (Kd.R_below Rx3.out hb_)
 replace Rg := mk (Kd.R_below Rg.out hb_)
 have Zw38 := mk hb_.size
 have HT_ := mk hC_
 have HL_ := mk hl_
 clear hr_ hb_ hl_ hC_
 refine hK.out _ _ ⟨((blk_cell Kgx0.out 0).trans rfl), ((blk_cell Kgx0.out 1).trans rfl), ((blk_cell Kgx0.out 2).trans rfl), ((blk_cell Kgx0.out 3).trans rfl), ((blk_cell Kgb0.out 0).trans rfl), ((blk_cell Kgb0.out 1).trans rfl), ((blk_cell Kgb0.out 2).trans rfl), ((blk_cell Kgb0.out 3).trans rfl)⟩ (fun hHeld => ?_)
 clear hK K
 refine norm_ (a' := ?_) ?_ ?_
 rotate_left
 ·show Act.put _ (some 80) _ = _
  simp only [Act.put, List.setIfInBounds_toArray, List.set_cons_zero, List.set_cons_succ, i64_w, i32_w]
  rfl
 refine one_ (i := 3) (N := some 81) #[true, true, true, true, false] rfl rfl (by kernel_rfl) (by decide) (fun K hK => ?_)
 refine goes_ Try.func24 (by kernel_rfl) rfl #[.agg #[.int .i64 x0_0, .int .i64 x0_1, .int .i64 x0_2, .slice Ax0 x0_3.length cx0], .agg #[.int .i64 x0_0, .int .i64 x0_1, .int .i64 x0_2, .slice At_ x0_3.length ct_]] (by rfl) rfl rfl (by simp only [List.map_toArray, List.map_cons, List.map_nil]; rfl) ?_
 with_reducible refine (laws_eqImage.calls k x0_0 x0_1 x0_2 Ax0 cx0 x0_3 x0_0 x0_1 x0_2 At_ ct_ x0_3 true _ (Kd.R_reads' Rx0.out).2.2 (Kd.R_reads' Rx0.out).2.1 HT_.out HL_.out HE0.out rfl).mono ?_
 rintro e w39 ⟨rfl, hb_⟩
 refine ⟨_, rfl, ?_⟩
 replace HB := mk (below_then HB.out HB.out.size hb_)
 replace Kgb0 := mk (blk_below Kgb0.out hb_)
 replace Kgb1 := mk (blk_below Kgb1.out hb_)
 replace Kgw := mk (blk_below Kgw.out hb_)
 replace Kgx0 := mk (blk_below Kgx0.out hb_)
 replace Kgx1 := mk (blk_below Kgx1.out hb_)
 replace Kgg := mk (blk_below Kgg.out hb_)
 replace Rw := mk (Kd.R_below Rw.out hb_)
 replace Rx0 := mk (Kd.R_below Rx0.out hb_)
 replace Rx1 := mk (Kd.R_below Rx1.out hb_)
 replace Rx2 := mk (Kd.S_below Rx2.out hb_)
 replace Rx3 := mk (Kd.R_below Rx3.out hb_)
 replace Rg := mk (Kd.R_below Rg.out hb_)
 have Zw39 := mk hb_.size
 clear hb_ HT_ HL_
 refine hK.out _ _ ⟨((blk_cell Kgx0.out 0).trans rfl), ((blk_cell Kgx0.out 1).trans rfl), ((blk_cell Kgx0.out 2).trans rfl), ((blk_cell Kgx0.out 3).trans rfl), ((blk_cell Kgb0.out 0).trans rfl), ((blk_cell Kgb0.out 1).trans rfl), ((blk_cell Kgb0.out 2).trans rfl), ((blk_cell Kgb0.out 3).trans rfl)⟩ (fun hHeld => ?_)
 clear hK K
 refine norm_ (a' := ?_) ?_ ?_
 rotate_left
 ·show Act.put _ (some 81) _ = _
  simp only [Act.put, List.setIfInBounds_toArray, List.set_cons_zero, List.set_cons_succ, i64_w, i32_w]
  rfl
 refine pure_ (i := 4) (N := some 82) (v := ?_) (a' := ?_) #[true, true, true, true, true] rfl rfl (by kernel_rfl) (fun _ _ _ h => h) (Or.inl ⟨by rfl, ?_⟩) ?_ ?_
 rotate_left
 ·intro w'
  go_simp
  with_reducible rfl
 rotate_left
 ·simp only [Act.put, List.setIfInBounds_toArray, List.set_cons_zero, List.set_cons_succ, i64_w, i32_w]
  rfl
 refine done_ (by kernel_rfl) ?_
 clear hHeld
 go_upto_region 23 with (first
  | fail)
 replace HB := mk (below_drew HB.out)
 replace Kgb0 := mk (blk_below Kgb0.out (below_drew (Below.refl _ _)))
 replace Kgb1 := mk (blk_below Kgb1.out (below_drew (Below.refl _ _)))
 replace Kgw := mk (blk_below Kgw.out (below_drew (Below.refl _ _)))
 replace Kgx0 := mk (blk_below Kgx0.out (below_drew (Below.refl _ _)))
 replace Kgx1 := mk (blk_below Kgx1.out (below_drew (Below.refl _ _)))
 replace Kgg := mk (blk_below Kgg.out (below_drew (Below.refl _ _)))
 replace Rw := mk (Kd.R_drew Rw.out)
 replace Rx0 := mk (Kd.R_drew Rx0.out)
 replace Rx1 := mk (Kd.R_drew Rx1.out)
 replace Rx2 := mk (Kd.S_drew Rx2.out)
 replace Rx3 := mk (Kd.R_drew Rx3.out)
 replace Rg := mk (Kd.R_drew Rg.out)
 refine start_ (n := 5) (S := fun w' => w'.cell? ⟨gx1, 0, none⟩ = some (.int .i64 x1_0) ∧ w'.cell? ⟨gx1, 1, none⟩ = some (.int .i64 x1_1) ∧ w'.cell? ⟨gx1, 2, none⟩ = some (.int .i64 x1_2) ∧ w'.cell? ⟨gx1, 3, none⟩ = some (.slice Ax1 x1_3.length cx1) ∧ w'.cell? ⟨gb1, 0, none⟩ = some (.int .i64 a1_0) ∧ w'.cell? ⟨gb1, 1, none⟩ = some (.int .i64 a1_1) ∧ w'.cell? ⟨gb1, 2, none⟩ = some (.int .i64 a1_2) ∧ w'.cell? ⟨gb1, 3, none⟩ = some (.slice A1_3 l1_3.length c1_3)) (ds := []) #[false, false, false, false, false] (by kernel_rfl) rfl rfl ⟨((blk_cell Kgx1.out 0).trans rfl), ((blk_cell Kgx1.out 1).trans rfl), ((blk_cell Kgx1.out 2).trans rfl), ((blk_cell Kgx1.out 3).trans rfl), ((blk_cell Kgb1.out 0).trans rfl), ((blk_cell Kgb1.out 1).trans rfl), ((blk_cell Kgb1.out 2).trans rfl), ((blk_cell Kgb1.out 3).trans rfl)⟩ (fun hHeld => ?_)
 refine take_ (i := 0) (N := some 83) (v := ?_) (a' := ?_) #[true, false, false, false, false] rfl rfl (by kernel_rfl) (fun _ _ _ h => h) (Or.inl ⟨by rfl, ?_⟩) hHeld ?_ ?_
 rotate_left
 ·rintro w' ⟨s0, s1, s2, s3, s4, s5, s6, s7⟩
  go_simp
  with_reducible rfl
 rotate_left
 ·simp only [Act.put, List.setIfInBounds_toArray, List.set_cons_zero, List.set_cons_succ, i64_w, i32_w]
  rfl
 refine take_ (i := 1) (N := some 84) (v := ?_) (a' := ?_) #[true, true, false, false, false] rfl rfl (by kernel_rfl) (fun _ _ _ h => h) (Or.inl ⟨by rfl, ?_⟩) hHeld ?_ ?_
 rotate_left
 ·rintro w' ⟨s0, s1, s2, s3, s4, s5, s6, s7⟩
  go_simp
  with_reducible rfl
 rotate_left
 ·simp only [Act.put, List.setIfInBounds_toArray, List.set_cons_zero, List.set_cons_succ, i64_w, i32_w]
  rfl
 refine one_ (i := 2) (N := some 85) #[true, true, true, false, false] rfl rfl (by kernel_rfl) (by decide) (fun K hK => ?_)
 refine goes_ Try.func22 (by kernel_rfl) rfl #[.agg #[.int .i64 a1_0, .int .i64 a1_1, .int .i64 a1_2, .slice A1_3 l1_3.length c1_3]] (by rfl) rfl rfl (by simp only [List.map_toArray, List.map_cons, List.map_nil]; rfl) ?_
 with_reducible refine (laws_toImage.calls k a1_0 a1_1 a1_2 A1_3 c1_3 l1_3 x1_0 x1_1 x1_2 x1_3 _ (Kd.C_below HR1.out HB.out) HC1.out HT1.out).mono ?_
 rintro e w40 ⟨vt_, rfl, hr_, hb_⟩
 refine ⟨_, rfl, ?_⟩
 obtain ⟨At_, ct_, rfl, hl_, hC_⟩ := Kd.R_reads hr_
 replace HB := mk (below_then HB.out HB.out.size hb_)
 replace Kgb0 := mk (blk_below Kgb0.out hb_)
 replace Kgb1 := mk (blk_below Kgb1.out hb_)
 replace Kgw := mk (blk_below Kgw.out hb_)
 replace Kgx0 := mk (blk_below Kgx0.out hb_)
 replace Kgx1 := mk (blk_below Kgx1.out hb_)
 replace Kgg := mk (blk_below Kgg.out hb_)
 replace Rw := mk (Kd.R_below Rw.out hb_)
 replace Rx0 := mk (Kd.R_below Rx0.out hb_)
 replace Rx1 := mk (Kd.R_below Rx1.out hb_)
 replace Rx2 := mk (Kd.S_below Rx2.out hb_)
 replace Rx3 := mk (Kd.R_below Rx3.out hb_)
 replace Rg := mk (Kd.R_below Rg.out hb_)
 have Zw40 := mk hb_.size
 have HT_ := mk hC_
 have HL_ := mk hl_
 clear hr_ hb_ hl_ hC_
 refine hK.out _ _ ⟨((blk_cell Kgx1.out 0).trans rfl), ((blk_cell Kgx1.out 1).trans rfl), ((blk_cell Kgx1.out 2).trans rfl), ((blk_cell Kgx1.out 3).trans rfl), ((blk_cell Kgb1.out 0).trans rfl), ((blk_cell Kgb1.out 1).trans rfl), ((blk_cell Kgb1.out 2).trans rfl), ((blk_cell Kgb1.out 3).trans rfl)⟩ (fun hHeld => ?_)
 clear hK K
 refine norm_ (a' := ?_) ?_ ?_
 rotate_left
 ·show Act.put _ (some 85) _ = _
  simp only [Act.put, List.setIfInBounds_toArray, List.set_cons_zero, List.set_cons_succ, i64_w, i32_w]
  rfl
 refine one_ (i := 3) (N := some 86) #[true, true, true, true, false] rfl rfl (by kernel_rfl) (by decide) (fun K hK => ?_)
 refine goes_ Try.func24 (by kernel_rfl) rfl #[.agg #[.int .i64 x1_0, .int .i64 x1_1, .int .i64 x1_2, .slice Ax1 x1_3.length cx1], .agg #[.int .i64 x1_0, .int .i64 x1_1, .int .i64 x1_2, .slice At_ x1_3.length ct_]] (by rfl) rfl rfl (by simp only [List.map_toArray, List.map_cons, List.map_nil]; rfl) ?_
 with_reducible refine (laws_eqImage.calls k x1_0 x1_1 x1_2 Ax1 cx1 x1_3 x1_0 x1_1 x1_2 At_ ct_ x1_3 true _ (Kd.R_reads' Rx1.out).2.2 (Kd.R_reads' Rx1.out).2.1 HT_.out HL_.out HE1.out rfl).mono ?_
 rintro e w41 ⟨rfl, hb_⟩
 refine ⟨_, rfl, ?_⟩
 replace HB := mk (below_then HB.out HB.out.size hb_)
 replace Kgb0 := mk (blk_below Kgb0.out hb_)
 replace Kgb1 := mk (blk_below Kgb1.out hb_)
 replace Kgw := mk (blk_below Kgw.out hb_)
 replace Kgx0 := mk (blk_below Kgx0.out hb_)
 replace Kgx1 := mk (blk_below Kgx1.out hb_)
 replace Kgg := mk (blk_below Kgg.out hb_)
 replace Rw := mk (Kd.R_below Rw.out hb_)
 replace Rx0 := mk (Kd.R_below Rx0.out hb_)
 replace Rx1 := mk (Kd.R_below Rx1.out hb_)
 replace Rx2 := mk (Kd.S_below Rx2.out hb_)
 replace Rx3 := mk (Kd.R_below Rx3.out hb_)
 replace Rg := mk (Kd.R_below Rg.out hb_)
 have Zw41 := mk hb_.size
 clear hb_ HT_ HL_
 refine hK.out _ _ ⟨((blk_cell Kgx1.out 0).trans rfl), ((blk_cell Kgx1.out 1).trans rfl), ((blk_cell Kgx1.out 2).trans rfl), ((blk_cell Kgx1.out 3).trans rfl), ((blk_cell Kgb1.out 0).trans rfl), ((blk_cell Kgb1.out 1).trans rfl), ((blk_cell Kgb1.out 2).trans rfl), ((blk_cell Kgb1.out 3).trans rfl)⟩ (fun hHeld => ?_)
 clear hK K
 refine norm_ (a' := ?_) ?_ ?_
 rotate_left
 ·show Act.put _ (some 86) _ = _
  simp only [Act.put, List.setIfInBounds_toArray, List.set_cons_zero, List.set_cons_succ, i64_w, i32_w]
  rfl
 refine pure_ (i := 4) (N := some 87) (v := ?_) (a' := ?_) #[true, true, true, true, true] rfl rfl (by kernel_rfl) (fun _ _ _ h => h) (Or.inl ⟨by rfl, ?_⟩) ?_ ?_
 rotate_left
 ·intro w'
  go_simp
  with_reducible rfl
 rotate_left
 ·simp only [Act.put, List.setIfInBounds_toArray, List.set_cons_zero, List.set_cons_succ, i64_w, i32_w]
  rfl
 refine done_ (by kernel_rfl) ?_
 clear hHeld
 go_upto_region 25 with (first
  | fail)
 go_upto_region 27 with (first | (go_at_call 66; (with_reducible refine (laws_toLayerS.calls k A2_0 c2_0 l2_0 x2_0 w41 (Kd.C_below HR2.out HB.out) HC2.out HT2.out).mono ?_); rintro e w42 ⟨vt_, rfl, hr, hb⟩; obtain ⟨At_, ct_, rfl, hl_, hC_⟩ := Kd.S_reads hr; replace HB := mk (below_then HB.out HB.out.size hb); replace Kgb0 := mk (blk_below Kgb0.out hb); replace Kgb1 := mk (blk_below Kgb1.out hb); replace Kgw := mk (blk_below Kgw.out hb); replace Kgx0 := mk (blk_below Kgx0.out hb); replace Kgx1 := mk (blk_below Kgx1.out hb); replace Kgg := mk (blk_below Kgg.out hb); replace Rw := mk (Kd.R_below Rw.out hb); replace Rx0 := mk (Kd.R_below Rx0.out hb); replace Rx1 := mk (Kd.R_below Rx1.out hb); replace Rx2 := mk (Kd.S_below Rx2.out hb); replace Rx3 := mk (Kd.R_below Rx3.out hb); replace Rg := mk (Kd.R_below Rg.out hb); have Zw42 := mk hb.size; have HT_ := mk hC_; have HL_ := mk hl_; clear hr hb hl_ hC_) | (go_at_call 68; (with_reducible refine (laws_eqLayerS.calls k Ax2 cx2 x2_0 At_ ct_ x2_0 true w42 (Kd.S_reads' Rx2.out).2.2 (Kd.S_reads' Rx2.out).2.1 HT_.out HL_.out HE2.out rfl).mono ?_); rintro e w43 ⟨rfl, hb⟩; replace HB := mk (below_then HB.out HB.out.size hb); replace Kgb0 := mk (blk_below Kgb0.out hb); replace Kgb1 := mk (blk_below Kgb1.out hb); replace Kgw := mk (blk_below Kgw.out hb); replace Kgx0 := mk (blk_below Kgx0.out hb); replace Kgx1 := mk (blk_below Kgx1.out hb); replace Kgg := mk (blk_below Kgg.out hb); replace Rw := mk (Kd.R_below Rw.out hb); replace Rx0 := mk (Kd.R_below Rx0.out hb); replace Rx1 := mk (Kd.R_below Rx1.out hb); replace Rx2 := mk (Kd.S_below Rx2.out hb); replace Rx3 := mk (Kd.R_below Rx3.out hb); replace Rg := mk (Kd.R_below Rg.out hb); have Zw43 := mk hb.size; clear hb HT_ HL_))
 go_upto_region 29 with (first | (go_at_call 77; (with_reducible refine (laws_toIntS.calls k A3_0 c3_0 l3_0 x3_0 w43 (Kd.C_below HR3.out HB.out) HC3.out HT3.out).mono ?_); rintro e w44 ⟨vt_, rfl, hr, hb⟩; obtain ⟨At_, ct_, rfl, hl_, hC_⟩ := Kd.R_reads hr; replace HB := mk (below_then HB.out HB.out.size hb); replace Kgb0 := mk (blk_below Kgb0.out hb); replace Kgb1 := mk (blk_below Kgb1.out hb); replace Kgw := mk (blk_below Kgw.out hb); replace Kgx0 := mk (blk_below Kgx0.out hb); replace Kgx1 := mk (blk_below Kgx1.out hb); replace Kgg := mk (blk_below Kgg.out hb); replace Rw := mk (Kd.R_below Rw.out hb); replace Rx0 := mk (Kd.R_below Rx0.out hb); replace Rx1 := mk (Kd.R_below Rx1.out hb); replace Rx2 := mk (Kd.S_below Rx2.out hb); replace Rx3 := mk (Kd.R_below Rx3.out hb); replace Rg := mk (Kd.R_below Rg.out hb); have Zw44 := mk hb.size; have HT_ := mk hC_; have HL_ := mk hl_; clear hr hb hl_ hC_) | (go_at_call 43; (with_reducible refine (laws_eqIntS.calls k Ax3 cx3 x3_0 At_ ct_ x3_0 true w44 (Kd.R_reads' Rx3.out).2.2 (Kd.R_reads' Rx3.out).2.1 HT_.out HL_.out HE3.out).mono ?_); rintro e w45 ⟨rfl, hb⟩; replace hb := hb.below; replace HB := mk (below_then HB.out HB.out.size hb); replace Kgb0 := mk (blk_below Kgb0.out hb); replace Kgb1 := mk (blk_below Kgb1.out hb); replace Kgw := mk (blk_below Kgw.out hb); replace Kgx0 := mk (blk_below Kgx0.out hb); replace Kgx1 := mk (blk_below Kgx1.out hb); replace Kgg := mk (blk_below Kgg.out hb); replace Rw := mk (Kd.R_below Rw.out hb); replace Rx0 := mk (Kd.R_below Rx0.out hb); replace Rx1 := mk (Kd.R_below Rx1.out hb); replace Rx2 := mk (Kd.S_below Rx2.out hb); replace Rx3 := mk (Kd.R_below Rx3.out hb); replace Rg := mk (Kd.R_below Rg.out hb); have Zw45 := mk hb.size; clear hb HT_ HL_))
 have Zb0 := mk QKgb0.out; have Zb1 := mk QKgb1.out
 have z0_ := NZw.out; have z1_ := Zgw.out; have z2_ := ZLgw.out; have z3_ := Zw29.out; have z4_ := Zw30.out; have z5_ := Zgx0.out; have z6_ := ZLgx0.out; have z7_ := Zw31.out; have z8_ := Zw32.out; have z9_ := Zgx1.out; have z10_ := ZLgx1.out; have z11_ := Zw33.out; have z12_ := Zw34.out; have z13_ := Zw35.out; have z14_ := Zw36.out; have z15_ := Zgg.out; have z16_ := ZLgg.out; have z17_ := Zw37.out; have z18_ := Zw38.out; have z19_ := Zw39.out; have z20_ := Zw40.out; have z21_ := Zw41.out; have z22_ := Zw42.out; have z23_ := Zw43.out; have z24_ := Zw44.out; have z25_ := Zw45.out; have z26_ := Zb0.out; have z27_ := Zb1.out
 have cgx0w45_0 : w45.cell? ⟨gx0, 0, none⟩ = some (.int .i64 x0_0) := (blk_cell Kgx0.out 0).trans rfl; obtain ⟨-, cgx0w45_1, cgx0w45_2, cgx0w45_3, -⟩ := c4 Kgx0.out
 go_upto_region 31 with (first
  | (go_at_call 31; (with_reducible refine (laws_markImage.calls k x0_0 x0_1 x0_2 (fun k_ => w28.heap.size ≤ k_ ∧ k_ < w29.heap.size) (.slice Ax0 x0_3.length cx0) x0_3 1 k0 y0 w w45 HB.out Rx0.out HM0.out).mono ?_); rintro e w46 ⟨rfl, hr, hb, hK⟩; replace Kgb0 := mk ((hK.2 gb0 (blk_lt Kgb0.out) (by have b_ := blk_lt Kgb0.out; rintro ⟨h1_, h2_⟩; omega)).trans Kgb0.out); replace Kgb1 := mk ((hK.2 gb1 (blk_lt Kgb1.out) (by have b_ := blk_lt Kgb1.out; rintro ⟨h1_, h2_⟩; omega)).trans Kgb1.out); replace Kgw := mk ((hK.2 gw (blk_lt Kgw.out) (by have b_ := blk_lt Kgw.out; rintro ⟨h1_, h2_⟩; omega)).trans Kgw.out); replace Kgx0 := mk ((hK.2 gx0 (blk_lt Kgx0.out) (by have b_ := blk_lt Kgx0.out; rintro ⟨h1_, h2_⟩; omega)).trans Kgx0.out); replace Kgx1 := mk ((hK.2 gx1 (blk_lt Kgx1.out) (by have b_ := blk_lt Kgx1.out; rintro ⟨h1_, h2_⟩; omega)).trans Kgx1.out); replace Kgg := mk ((hK.2 gg (blk_lt Kgg.out) (by have b_ := blk_lt Kgg.out; rintro ⟨h1_, h2_⟩; omega)).trans Kgg.out); replace Rw := mk (Kd.R_kept Rw.out hK (by rintro k_ ⟨h1_, h2_⟩ ⟨h3_, h4_⟩; omega)); replace Rx1 := mk (Kd.R_kept Rx1.out hK (by rintro k_ ⟨h1_, h2_⟩ ⟨h3_, h4_⟩; omega)); replace Rx2 := mk (Kd.S_kept Rx2.out hK (by rintro k_ ⟨h1_, h2_⟩ ⟨h3_, h4_⟩; omega)); replace Rx3 := mk (Kd.R_kept Rx3.out hK (by rintro k_ ⟨h1_, h2_⟩ ⟨h3_, h4_⟩; omega)); replace Rg := mk (Kd.R_kept Rg.out hK (by rintro k_ ⟨h1_, h2_⟩ ⟨h3_, h4_⟩; omega)); replace HB := mk hb; replace Rx0 := mk hr; have Zw46 := mk hK.1; clear hr hb hK))
 clear z0_ z1_ z2_ z3_ z4_ z5_ z6_ z7_ z8_ z9_ z10_ z11_ z12_ z13_ z14_ z15_ z16_ z17_ z18_ z19_ z20_ z21_ z22_ z23_ z24_ z25_ z26_ z27_
 have z0_ := NZw.out; have z1_ := Zgw.out; have z2_ := ZLgw.out; have z3_ := Zw29.out; have z4_ := Zw30.out; have z5_ := Zgx0.out; have z6_ := ZLgx0.out; have z7_ := Zw31.out; have z8_ := Zw32.out; have z9_ := Zgx1.out; have z10_ := ZLgx1.out; have z11_ := Zw33.out; have z12_ := Zw34.out; have z13_ := Zw35.out; have z14_ := Zw36.out; have z15_ := Zgg.out; have z16_ := ZLgg.out; have z17_ := Zw37.out; have z18_ := Zw38.out; have z19_ := Zw39.out; have z20_ := Zw40.out; have z21_ := Zw41.out; have z22_ := Zw42.out; have z23_ := Zw43.out; have z24_ := Zw44.out; have z25_ := Zw45.out; have z26_ := Zb0.out; have z27_ := Zb1.out; have z28_ := Zw46.out
 have cgx1w46_0 : w46.cell? ⟨gx1, 0, none⟩ = some (.int .i64 x1_0) := (blk_cell Kgx1.out 0).trans rfl; obtain ⟨-, cgx1w46_1, cgx1w46_2, cgx1w46_3, -⟩ := c4 Kgx1.out
 go_upto_region 32 with (first
  | (go_at_call 31; (with_reducible refine (laws_markImage.calls k x1_0 x1_1 x1_2 (fun k_ => w30.heap.size ≤ k_ ∧ k_ < w31.heap.size) (.slice Ax1 x1_3.length cx1) x1_3 k0 k1 y1 w w46 HB.out Rx1.out HM1.out).mono ?_); rintro e w47 ⟨rfl, hr, hb, hK⟩; replace Kgb0 := mk ((hK.2 gb0 (blk_lt Kgb0.out) (by have b_ := blk_lt Kgb0.out; rintro ⟨h1_, h2_⟩; omega)).trans Kgb0.out); replace Kgb1 := mk ((hK.2 gb1 (blk_lt Kgb1.out) (by have b_ := blk_lt Kgb1.out; rintro ⟨h1_, h2_⟩; omega)).trans Kgb1.out); replace Kgw := mk ((hK.2 gw (blk_lt Kgw.out) (by have b_ := blk_lt Kgw.out; rintro ⟨h1_, h2_⟩; omega)).trans Kgw.out); replace Kgx0 := mk ((hK.2 gx0 (blk_lt Kgx0.out) (by have b_ := blk_lt Kgx0.out; rintro ⟨h1_, h2_⟩; omega)).trans Kgx0.out); replace Kgx1 := mk ((hK.2 gx1 (blk_lt Kgx1.out) (by have b_ := blk_lt Kgx1.out; rintro ⟨h1_, h2_⟩; omega)).trans Kgx1.out); replace Kgg := mk ((hK.2 gg (blk_lt Kgg.out) (by have b_ := blk_lt Kgg.out; rintro ⟨h1_, h2_⟩; omega)).trans Kgg.out); replace Rw := mk (Kd.R_kept Rw.out hK (by rintro k_ ⟨h1_, h2_⟩ ⟨h3_, h4_⟩; omega)); replace Rx2 := mk (Kd.S_kept Rx2.out hK (by rintro k_ ⟨h1_, h2_⟩ ⟨h3_, h4_⟩; omega)); replace Rx3 := mk (Kd.R_kept Rx3.out hK (by rintro k_ ⟨h1_, h2_⟩ ⟨h3_, h4_⟩; omega)); replace Rg := mk (Kd.R_kept Rg.out hK (by rintro k_ ⟨h1_, h2_⟩ ⟨h3_, h4_⟩; omega)); replace HB := mk hb; replace Rx1 := mk hr; have Zw47 := mk hK.1; clear hr hb hK))
 clear z0_ z1_ z2_ z3_ z4_ z5_ z6_ z7_ z8_ z9_ z10_ z11_ z12_ z13_ z14_ z15_ z16_ z17_ z18_ z19_ z20_ z21_ z22_ z23_ z24_ z25_ z26_ z27_ z28_
 have z0_ := NZw.out; have z1_ := Zgw.out; have z2_ := ZLgw.out; have z3_ := Zw29.out; have z4_ := Zw30.out; have z5_ := Zgx0.out; have z6_ := ZLgx0.out; have z7_ := Zw31.out; have z8_ := Zw32.out; have z9_ := Zgx1.out; have z10_ := ZLgx1.out; have z11_ := Zw33.out; have z12_ := Zw34.out; have z13_ := Zw35.out; have z14_ := Zw36.out; have z15_ := Zgg.out; have z16_ := ZLgg.out; have z17_ := Zw37.out; have z18_ := Zw38.out; have z19_ := Zw39.out; have z20_ := Zw40.out; have z21_ := Zw41.out; have z22_ := Zw42.out; have z23_ := Zw43.out; have z24_ := Zw44.out; have z25_ := Zw45.out; have z26_ := Zb0.out; have z27_ := Zb1.out; have z28_ := Zw46.out; have z29_ := Zw47.out
 go_upto_region 33 with (first
  | (go_at_call 69; (with_reducible refine (laws_markLayerS.calls k (fun k_ => w32.heap.size ≤ k_ ∧ k_ < w33.heap.size) (.slice Ax2 x2_0.length cx2) x2_0 k1 k2 y2 w w47 HB.out Rx2.out HM2.out).mono ?_); rintro e w48 ⟨rfl, hr, hb, hK⟩; replace Kgb0 := mk ((hK.2 gb0 (blk_lt Kgb0.out) (by have b_ := blk_lt Kgb0.out; rintro ⟨h1_, h2_⟩; omega)).trans Kgb0.out); replace Kgb1 := mk ((hK.2 gb1 (blk_lt Kgb1.out) (by have b_ := blk_lt Kgb1.out; rintro ⟨h1_, h2_⟩; omega)).trans Kgb1.out); replace Kgw := mk ((hK.2 gw (blk_lt Kgw.out) (by have b_ := blk_lt Kgw.out; rintro ⟨h1_, h2_⟩; omega)).trans Kgw.out); replace Kgx0 := mk ((hK.2 gx0 (blk_lt Kgx0.out) (by have b_ := blk_lt Kgx0.out; rintro ⟨h1_, h2_⟩; omega)).trans Kgx0.out); replace Kgx1 := mk ((hK.2 gx1 (blk_lt Kgx1.out) (by have b_ := blk_lt Kgx1.out; rintro ⟨h1_, h2_⟩; omega)).trans Kgx1.out); replace Kgg := mk ((hK.2 gg (blk_lt Kgg.out) (by have b_ := blk_lt Kgg.out; rintro ⟨h1_, h2_⟩; omega)).trans Kgg.out); replace Rw := mk (Kd.R_kept Rw.out hK (by rintro k_ ⟨h1_, h2_⟩ ⟨h3_, h4_⟩; omega)); replace Rx3 := mk (Kd.R_kept Rx3.out hK (by rintro k_ ⟨h1_, h2_⟩ ⟨h3_, h4_⟩; omega)); replace Rg := mk (Kd.R_kept Rg.out hK (by rintro k_ ⟨h1_, h2_⟩ ⟨h3_, h4_⟩; omega)); replace HB := mk hb; replace Rx2 := mk hr; have Zw48 := mk hK.1; clear hr hb hK))
 clear z0_ z1_ z2_ z3_ z4_ z5_ z6_ z7_ z8_ z9_ z10_ z11_ z12_ z13_ z14_ z15_ z16_ z17_ z18_ z19_ z20_ z21_ z22_ z23_ z24_ z25_ z26_ z27_ z28_ z29_
 have z0_ := NZw.out; have z1_ := Zgw.out; have z2_ := ZLgw.out; have z3_ := Zw29.out; have z4_ := Zw30.out; have z5_ := Zgx0.out; have z6_ := ZLgx0.out; have z7_ := Zw31.out; have z8_ := Zw32.out; have z9_ := Zgx1.out; have z10_ := ZLgx1.out; have z11_ := Zw33.out; have z12_ := Zw34.out; have z13_ := Zw35.out; have z14_ := Zw36.out; have z15_ := Zgg.out; have z16_ := ZLgg.out; have z17_ := Zw37.out; have z18_ := Zw38.out; have z19_ := Zw39.out; have z20_ := Zw40.out; have z21_ := Zw41.out; have z22_ := Zw42.out; have z23_ := Zw43.out; have z24_ := Zw44.out; have z25_ := Zw45.out; have z26_ := Zb0.out; have z27_ := Zb1.out; have z28_ := Zw46.out; have z29_ := Zw47.out; have z30_ := Zw48.out
 go_upto_region 34 with (first
  | (go_at_call 46; (with_reducible refine (laws_markIntS.calls k (fun k_ => w33.heap.size ≤ k_ ∧ k_ < w34.heap.size) (.slice Ax3 x3_0.length cx3) x3_0 k2 k3 y3 w w48 HB.out Rx3.out HM3.out).mono ?_); rintro e w49 ⟨rfl, hr, hb, hK⟩; replace Kgb0 := mk ((hK.2 gb0 (blk_lt Kgb0.out) (by have b_ := blk_lt Kgb0.out; rintro ⟨h1_, h2_⟩; omega)).trans Kgb0.out); replace Kgb1 := mk ((hK.2 gb1 (blk_lt Kgb1.out) (by have b_ := blk_lt Kgb1.out; rintro ⟨h1_, h2_⟩; omega)).trans Kgb1.out); replace Kgw := mk ((hK.2 gw (blk_lt Kgw.out) (by have b_ := blk_lt Kgw.out; rintro ⟨h1_, h2_⟩; omega)).trans Kgw.out); replace Kgx0 := mk ((hK.2 gx0 (blk_lt Kgx0.out) (by have b_ := blk_lt Kgx0.out; rintro ⟨h1_, h2_⟩; omega)).trans Kgx0.out); replace Kgx1 := mk ((hK.2 gx1 (blk_lt Kgx1.out) (by have b_ := blk_lt Kgx1.out; rintro ⟨h1_, h2_⟩; omega)).trans Kgx1.out); replace Kgg := mk ((hK.2 gg (blk_lt Kgg.out) (by have b_ := blk_lt Kgg.out; rintro ⟨h1_, h2_⟩; omega)).trans Kgg.out); replace Rw := mk (Kd.R_kept Rw.out hK (by rintro k_ ⟨h1_, h2_⟩ ⟨h3_, h4_⟩; omega)); replace Rg := mk (Kd.R_kept Rg.out hK (by rintro k_ ⟨h1_, h2_⟩ ⟨h3_, h4_⟩; omega)); replace HB := mk hb; replace Rx3 := mk hr; have Zw49 := mk hK.1; clear hr hb hK))
 clear z0_ z1_ z2_ z3_ z4_ z5_ z6_ z7_ z8_ z9_ z10_ z11_ z12_ z13_ z14_ z15_ z16_ z17_ z18_ z19_ z20_ z21_ z22_ z23_ z24_ z25_ z26_ z27_ z28_ z29_ z30_
 have cggw49_0 : w49.cell? ⟨gg, 0, none⟩ = some (.int .i64 v0) := (blk_cell Kgg.out 0).trans rfl; obtain ⟨-, cggw49_1, cggw49_2, cggw49_3, -⟩ := c4 Kgg.out
 have cgww49_0 : w49.cell? ⟨gw, 0, none⟩ = some (.int .i64 v0) := (blk_cell Kgw.out 0).trans rfl; obtain ⟨-, cgww49_1, cgww49_2, cgww49_3, -⟩ := c4 Kgw.out
 go_upto_region 36 with (first
  | (go_at_call 24; (with_reducible refine (laws_eqImage.calls k v0 v1 v2 Ag cg v3 v0 v1 v2 Aw cw v3 true w49 (Kd.R_reads' Rg.out).2.2 (Kd.R_reads' Rg.out).2.1 (Kd.R_reads' Rw.out).2.2 (Kd.R_reads' Rw.out).2.1 HEV.out rfl).mono ?_); rintro e w50 ⟨rfl, hb⟩; replace HB := mk (below_then HB.out HB.out.size hb); replace Kgb0 := mk (blk_below Kgb0.out hb); replace Kgb1 := mk (blk_below Kgb1.out hb); replace Kgw := mk (blk_below Kgw.out hb); replace Kgx0 := mk (blk_below Kgx0.out hb); replace Kgx1 := mk (blk_below Kgx1.out hb); replace Kgg := mk (blk_below Kgg.out hb); replace Rw := mk (Kd.R_below Rw.out hb); replace Rg := mk (Kd.R_below Rg.out hb); have Zw50 := mk hb.size; clear hb))
 have z0_ := NZw.out; have z1_ := Zgw.out; have z2_ := ZLgw.out; have z3_ := Zw29.out; have z4_ := Zw30.out; have z5_ := Zgx0.out; have z6_ := ZLgx0.out; have z7_ := Zw31.out; have z8_ := Zw32.out; have z9_ := Zgx1.out; have z10_ := ZLgx1.out; have z11_ := Zw33.out; have z12_ := Zw34.out; have z13_ := Zw35.out; have z14_ := Zw36.out; have z15_ := Zgg.out; have z16_ := ZLgg.out; have z17_ := Zw37.out; have z18_ := Zw38.out; have z19_ := Zw39.out; have z20_ := Zw40.out; have z21_ := Zw41.out; have z22_ := Zw42.out; have z23_ := Zw43.out; have z24_ := Zw44.out; have z25_ := Zw45.out; have z26_ := Zb0.out; have z27_ := Zb1.out; have z28_ := Zw46.out; have z29_ := Zw47.out; have z30_ := Zw48.out; have z31_ := Zw49.out; have z32_ := Zw50.out
 have cggw50_0 : w50.cell? ⟨gg, 0, none⟩ = some (.int .i64 v0) := (blk_cell Kgg.out 0).trans rfl; obtain ⟨-, cggw50_1, cggw50_2, cggw50_3, -⟩ := c4 Kgg.out
 go_upto_region 38 with (first
  | (go_at_call 31; (with_reducible refine (laws_markImage.calls k v0 v1 v2 (fun k_ => w34.heap.size ≤ k_ ∧ k_ < w35.heap.size) (.slice Ag v3.length cg) v3 1 m u w w50 HB.out Rg.out HMR.out).mono ?_); rintro e w51 ⟨rfl, hr, hb, hK⟩; replace Kgb0 := mk ((hK.2 gb0 (blk_lt Kgb0.out) (by have b_ := blk_lt Kgb0.out; rintro ⟨h1_, h2_⟩; omega)).trans Kgb0.out); replace Kgb1 := mk ((hK.2 gb1 (blk_lt Kgb1.out) (by have b_ := blk_lt Kgb1.out; rintro ⟨h1_, h2_⟩; omega)).trans Kgb1.out); replace Kgw := mk ((hK.2 gw (blk_lt Kgw.out) (by have b_ := blk_lt Kgw.out; rintro ⟨h1_, h2_⟩; omega)).trans Kgw.out); replace Kgx0 := mk ((hK.2 gx0 (blk_lt Kgx0.out) (by have b_ := blk_lt Kgx0.out; rintro ⟨h1_, h2_⟩; omega)).trans Kgx0.out); replace Kgx1 := mk ((hK.2 gx1 (blk_lt Kgx1.out) (by have b_ := blk_lt Kgx1.out; rintro ⟨h1_, h2_⟩; omega)).trans Kgx1.out); replace Kgg := mk ((hK.2 gg (blk_lt Kgg.out) (by have b_ := blk_lt Kgg.out; rintro ⟨h1_, h2_⟩; omega)).trans Kgg.out); replace Rw := mk (Kd.R_kept Rw.out hK (by rintro k_ ⟨h1_, h2_⟩ ⟨h3_, h4_⟩; omega)); replace HB := mk hb; replace Rg := mk hr; have Zw51 := mk hK.1; clear hr hb hK))
 clear z0_ z1_ z2_ z3_ z4_ z5_ z6_ z7_ z8_ z9_ z10_ z11_ z12_ z13_ z14_ z15_ z16_ z17_ z18_ z19_ z20_ z21_ z22_ z23_ z24_ z25_ z26_ z27_ z28_ z29_ z30_ z31_ z32_
 have eu := mk (Kd.R_reads' Rg.out).1
 replace Kgg := mk (show w51.heap[gg]? = some (.cells #[.int .i64 v0, .int .i64 v1, .int .i64 v2, .slice Ag u.length cg] 27 (0, 0)) from by rw [← eu.out]; exact Kgg.out)
 replace Rg := mk (show Kd.R (Kd.int .i64) 3 w51 w.heap.size (fun k_ => 0 ≤ k_ ∧ k_ < w51.heap.size) (.slice Ag u.length cg) u from by rw [← eu.out]; exact Kd.R_mono (Kd.R_bound Rg.out) (fun k_ hk_ => ⟨Nat.zero_le _, hk_.2.2.1⟩))
 clear eu
 have cggw51_0 : w51.cell? ⟨gg, 0, none⟩ = some (.int .i64 v0) := (blk_cell Kgg.out 0).trans rfl; obtain ⟨-, cggw51_1, cggw51_2, cggw51_3, -⟩ := c4 Kgg.out
 go_upto_region 44 with (first
  | (go_at_call 59; (with_reducible refine (laws_heldImage.calls k v0 v1 v2 Ag cg u 1 m w51 (Kd.R_reads' Rg.out).2.2 (Kd.R_reads' Rg.out).2.1 HHR.out).mono ?_); rintro e w52 ⟨rfl, hb⟩; replace HB := mk (below_then HB.out HB.out.size hb); replace Kgb0 := mk (blk_below Kgb0.out hb); replace Kgb1 := mk (blk_below Kgb1.out hb); replace Kgw := mk (blk_below Kgw.out hb); replace Kgg := mk (blk_below Kgg.out hb); replace Rw := mk (Kd.R_below Rw.out hb); replace Rg := mk (Kd.R_below Rg.out hb); have Zw52 := mk hb.size; clear hb))
 have HBSh := mk HB.out.size
 have HZh := mk (Nat.le_refl w52.heap.size)
 replace HB := mk (below_drew HB.out)
 replace Kgb0 := mk (blk_below Kgb0.out (below_drew (Below.refl _ _)))
 replace Kgb1 := mk (blk_below Kgb1.out (below_drew (Below.refl _ _)))
 replace Kgw := mk (blk_below Kgw.out (below_drew (Below.refl _ _)))
 replace Kgg := mk (blk_below Kgg.out (below_drew (Below.refl _ _)))
 replace Rw := mk (Kd.R_drew Rw.out)
 replace Rg := mk (Kd.R_drew Rg.out)
 replace HZh := mk (show w52.heap.size ≤ w52.drew.heap.size from HZh.out)
 have QKgb0 := mk (show gb0 < w52.heap.size from blk_lt Kgb0.out)
 have QKgb1 := mk (show gb1 < w52.heap.size from blk_lt Kgb1.out)
 have QKgw := mk (show gw < w52.heap.size from blk_lt Kgw.out)
 have QKgg := mk (show gg < w52.heap.size from blk_lt Kgg.out)
 refine start_ (n := 15) (S := fun w' => w'.cell? ⟨gb0, 0, none⟩ = some (.int .i64 a0_0) ∧ w'.cell? ⟨gb0, 1, none⟩ = some (.int .i64 a0_1) ∧ w'.cell? ⟨gb0, 2, none⟩ = some (.int .i64 a0_2) ∧ w'.cell? ⟨gb0, 3, none⟩ = some (.slice A0_3 l0_3.length c0_3) ∧ w'.cell? ⟨gb1, 0, none⟩ = some (.int .i64 a1_0) ∧ w'.cell? ⟨gb1, 1, none⟩ = some (.int .i64 a1_1) ∧ w'.cell? ⟨gb1, 2, none⟩ = some (.int .i64 a1_2) ∧ w'.cell? ⟨gb1, 3, none⟩ = some (.slice A1_3 l1_3.length c1_3)) (ds := []) #[false, false, false, false, false, false, false, false, false, false, false, false, false, false, false] (by kernel_rfl) rfl rfl ⟨((blk_cell Kgb0.out 0).trans rfl), ((blk_cell Kgb0.out 1).trans rfl), ((blk_cell Kgb0.out 2).trans rfl), ((blk_cell Kgb0.out 3).trans rfl), ((blk_cell Kgb1.out 0).trans rfl), ((blk_cell Kgb1.out 1).trans rfl), ((blk_cell Kgb1.out 2).trans rfl), ((blk_cell Kgb1.out 3).trans rfl)⟩ (fun hHeld => ?_)
 refine pure_ (i := 4) (N := some 139) (v := ?_) (a' := ?_) #[false, false, false, false, true, false, false, false, false, false, false, false, false, false, false] rfl rfl (by kernel_rfl) (fun _ _ _ h => h) (Or.inl ⟨by rfl, ?_⟩) ?_ ?_
 rotate_left
 ·intro w'
  go_simp
  with_reducible rfl
 rotate_left
 ·simp only [Act.put, List.setIfInBounds_toArray, List.set_cons_zero, List.set_cons_succ, i64_w, i32_w]
  rfl
 refine pure_ (i := 6) (N := some 141) (v := ?_) (a' := ?_) #[false, false, false, false, true, false, true, false, false, false, false, false, false, false, false] rfl rfl (by kernel_rfl) (fun _ _ _ h => h) (Or.inl ⟨by rfl, ?_⟩) ?_ ?_
 rotate_left
 ·intro w'
  go_simp
  with_reducible rfl
 rotate_left
 ·simp only [Act.put, List.setIfInBounds_toArray, List.set_cons_zero, List.set_cons_succ, i64_w, i32_w]
  rfl
 refine take_ (i := 0) (N := some 135) (v := ?_) (a' := ?_) #[true, false, false, false, true, false, true, false, false, false, false, false, false, false, false] rfl rfl (by kernel_rfl) (fun _ _ _ h => h) (Or.inl ⟨by rfl, ?_⟩) hHeld ?_ ?_
 rotate_left
 ·rintro w' ⟨s0, s1, s2, s3, s4, s5, s6, s7⟩
  go_simp
  with_reducible rfl
 rotate_left
 ·simp only [Act.put, List.setIfInBounds_toArray, List.set_cons_zero, List.set_cons_succ, i64_w, i32_w]
  rfl
 refine take_ (i := 2) (N := some 137) (v := ?_) (a' := ?_) #[true, false, true, false, true, false, true, false, false, false, false, false, false, false, false] rfl rfl (by kernel_rfl) (fun _ _ _ h => h) (Or.inl ⟨by rfl, ?_⟩) hHeld ?_ ?_
 rotate_left
 ·rintro w' ⟨s0, s1, s2, s3, s4, s5, s6, s7⟩
  go_simp
  with_reducible rfl
 rotate_left
 ·simp only [Act.put, List.setIfInBounds_toArray, List.set_cons_zero, List.set_cons_succ, i64_w, i32_w]
  rfl
 refine join_ (σ := Value × Value × Value × Value × Value × Nat) 2 #[true, true, true, true, true, true, true, true, true, true, true, true, true, false, false] (fun s_ => [(136, .agg #[.int .i64 x0_0, .int .i64 x0_1, .int .i64 x0_2, s_.1]), (138, .agg #[.int .i64 x1_0, .int .i64 x1_1, .int .i64 x1_2, s_.2.1]), (140, s_.2.2.1), (142, s_.2.2.2.1), (143, .tuple #[.agg #[.int .i64 v0, .int .i64 v1, .int .i64 v2, s_.2.2.2.2.1], .bool vok]), (134, .tuple #[.agg #[.int .i64 v0, .int .i64 v1, .int .i64 v2, s_.2.2.2.2.1], .bool vok]), (144, .agg #[.int .i64 v0, .int .i64 v1, .int .i64 v2, s_.2.2.2.2.1]), (145, .bool vok), (21, .pointer (some ⟨s_.2.2.2.2.2, 0, none⟩))]) (fun s_ w' => Kd.R (Kd.int .i64) 3 w' w.heap.size (fun k_ => w52.heap.size ≤ k_ ∧ k_ < w'.heap.size) s_.2.2.2.2.1 v3 ∧ w'.heap[s_.2.2.2.2.2]? = some (.cells #[.int .i64 0, .int .i64 0, .int .i64 0, .slice none 0 0] 27 (0, 0)) ∧ w52.heap.size ≤ s_.2.2.2.2.2 ∧ w'.heap[gb0]? = some (.cells #[.int .i64 a0_0, .int .i64 a0_1, .int .i64 a0_2, .slice A0_3 l0_3.length c0_3] 24 (0, 0)) ∧ w'.heap[gb1]? = some (.cells #[.int .i64 a1_0, .int .i64 a1_1, .int .i64 a1_2, .slice A1_3 l1_3.length c1_3] 24 (0, 0)) ∧ w'.heap[gw]? = some (.cells #[.int .i64 v0, .int .i64 v1, .int .i64 v2, .slice Aw v3.length cw] 27 (0, 0)) ∧ w'.heap[gg]? = some (.cells #[.int .i64 v0, .int .i64 v1, .int .i64 v2, .slice Ag u.length cg] 27 (0, 0)) ∧ Kd.R (Kd.int .i64) 3 w' w.heap.size (fun k_ => wz2.heap.size ≤ k_ ∧ k_ < w28.heap.size) (.slice Aw v3.length cw) v3 ∧ Kd.R (Kd.int .i64) 3 w' w.heap.size (fun k_ => 0 ≤ k_ ∧ k_ < w51.heap.size) (.slice Ag u.length cg) u ∧ Below w.heap.size w w' ∧ w52.heap.size ≤ w'.heap.size) ?_ ?_
 rotate_left
 ·intro hCont
  refine two_ (i := 1) (j := 12) (Ni := some 136) (Nj := some 21) #[true, true, true, false, true, false, true, false, false, false, false, false, false, false, false] #[true, false, true, false, true, false, true, false, false, false, false, false, true, false, false] rfl rfl rfl rfl (by kernel_rfl) (by decide) (by decide) (fun K hK => ?_) (fun K hK => ?_)
  ·skip
   refine goes_ Try.func22 (by kernel_rfl) rfl #[.agg #[.int .i64 a0_0, .int .i64 a0_1, .int .i64 a0_2, .slice A0_3 l0_3.length c0_3]] (by rfl) rfl rfl (by simp only [List.map_toArray, List.map_cons, List.map_nil]; rfl) ?_
   with_reducible refine (laws_toImage.calls k a0_0 a0_1 a0_2 A0_3 c0_3 l0_3 x0_0 x0_1 x0_2 x0_3 _ (Kd.C_below HR0.out HB.out) HC0.out HT0.out).mono ?_
   rintro e w54 ⟨vt_, rfl, hr_, hb_⟩
   refine ⟨_, rfl, ?_⟩
   replace HB := mk (below_then HB.out HB.out.size hb_)
   replace Kgb0 := mk (blk_below Kgb0.out hb_)
   replace Kgb1 := mk (blk_below Kgb1.out hb_)
   replace Kgw := mk (blk_below Kgw.out hb_)
   replace Kgg := mk (blk_below Kgg.out hb_)
   replace Rw := mk (Kd.R_below Rw.out hb_)
   replace Rg := mk (Kd.R_below Rg.out hb_)
   replace HZh := mk (Nat.le_trans HZh.out hb_.size)
   obtain ⟨At0, ct0, rfl, hl_, hC_⟩ := Kd.R_reads hr_
   have HT_0 := mk hC_
   have HL_0 := mk hl_
   clear hr_ hb_ hl_ hC_
   refine hK.out _ _ ⟨((blk_cell Kgb0.out 0).trans rfl), ((blk_cell Kgb0.out 1).trans rfl), ((blk_cell Kgb0.out 2).trans rfl), ((blk_cell Kgb0.out 3).trans rfl), ((blk_cell Kgb1.out 0).trans rfl), ((blk_cell Kgb1.out 1).trans rfl), ((blk_cell Kgb1.out 2).trans rfl), ((blk_cell Kgb1.out 3).trans rfl)⟩ (fun hHeld => ?_)
   clear hK K
   refine norm_ (a' := ?_) ?_ ?_
   rotate_left
   ·show Act.put _ (some 136) _ = _
    simp only [Act.put, List.setIfInBounds_toArray, List.set_cons_zero, List.set_cons_succ, i64_w, i32_w]
    rfl
   refine two_ (i := 3) (j := 12) (Ni := some 138) (Nj := some 21) #[true, true, true, true, true, false, true, false, false, false, false, false, false, false, false] #[true, true, true, false, true, false, true, false, false, false, false, false, true, false, false] rfl rfl rfl rfl (by kernel_rfl) (by decide) (by decide) (fun K hK => ?_) (fun K hK => ?_)
   ·skip
    refine goes_ Try.func22 (by kernel_rfl) rfl #[.agg #[.int .i64 a1_0, .int .i64 a1_1, .int .i64 a1_2, .slice A1_3 l1_3.length c1_3]] (by rfl) rfl rfl (by simp only [List.map_toArray, List.map_cons, List.map_nil]; rfl) ?_
    with_reducible refine (laws_toImage.calls k a1_0 a1_1 a1_2 A1_3 c1_3 l1_3 x1_0 x1_1 x1_2 x1_3 _ (Kd.C_below HR1.out HB.out) HC1.out HT1.out).mono ?_
    rintro e w55 ⟨vt_, rfl, hr_, hb_⟩
    refine ⟨_, rfl, ?_⟩
    replace HB := mk (below_then HB.out HB.out.size hb_)
    replace Kgb0 := mk (blk_below Kgb0.out hb_)
    replace Kgb1 := mk (blk_below Kgb1.out hb_)
    replace Kgw := mk (blk_below Kgw.out hb_)
    replace Kgg := mk (blk_below Kgg.out hb_)
    replace Rw := mk (Kd.R_below Rw.out hb_)
    replace Rg := mk (Kd.R_below Rg.out hb_)
    replace HT_0 := mk (Kd.C_below HT_0.out hb_)
    replace HZh := mk (Nat.le_trans HZh.out hb_.size)
    obtain ⟨At1, ct1, rfl, hl_, hC_⟩ := Kd.R_reads hr_
    have HT_1 := mk hC_
    have HL_1 := mk hl_
    clear hr_ hb_ hl_ hC_
    refine hK.out _ _ ⟨((blk_cell Kgb0.out 0).trans rfl), ((blk_cell Kgb0.out 1).trans rfl), ((blk_cell Kgb0.out 2).trans rfl), ((blk_cell Kgb0.out 3).trans rfl), ((blk_cell Kgb1.out 0).trans rfl), ((blk_cell Kgb1.out 1).trans rfl), ((blk_cell Kgb1.out 2).trans rfl), ((blk_cell Kgb1.out 3).trans rfl)⟩ (fun hHeld => ?_)
    clear hK K
    refine norm_ (a' := ?_) ?_ ?_
    rotate_left
    ·show Act.put _ (some 138) _ = _
     simp only [Act.put, List.setIfInBounds_toArray, List.set_cons_zero, List.set_cons_succ, i64_w, i32_w]
     rfl
    refine two_ (i := 5) (j := 12) (Ni := some 140) (Nj := some 21) #[true, true, true, true, true, true, true, false, false, false, false, false, false, false, false] #[true, true, true, true, true, false, true, false, false, false, false, false, true, false, false] rfl rfl rfl rfl (by kernel_rfl) (by decide) (by decide) (fun K hK => ?_) (fun K hK => ?_)
    ·skip
     refine goes_ Try.func66 (by kernel_rfl) rfl #[.slice A2_0 l2_0.length c2_0] (by rfl) rfl rfl (by simp only [List.map_toArray, List.map_cons, List.map_nil]; rfl) ?_
     with_reducible refine (laws_toLayerS.calls k A2_0 c2_0 l2_0 x2_0 _ (Kd.C_below HR2.out HB.out) HC2.out HT2.out).mono ?_
     rintro e w56 ⟨vt_, rfl, hr_, hb_⟩
     refine ⟨_, rfl, ?_⟩
     replace HB := mk (below_then HB.out HB.out.size hb_)
     replace Kgb0 := mk (blk_below Kgb0.out hb_)
     replace Kgb1 := mk (blk_below Kgb1.out hb_)
     replace Kgw := mk (blk_below Kgw.out hb_)
     replace Kgg := mk (blk_below Kgg.out hb_)
     replace Rw := mk (Kd.R_below Rw.out hb_)
     replace Rg := mk (Kd.R_below Rg.out hb_)
     replace HT_0 := mk (Kd.C_below HT_0.out hb_)
     replace HT_1 := mk (Kd.C_below HT_1.out hb_)
     replace HZh := mk (Nat.le_trans HZh.out hb_.size)
     obtain ⟨At2, ct2, rfl, hl_, hC_⟩ := Kd.S_reads hr_
     have HT_2 := mk hC_
     have HL_2 := mk hl_
     clear hr_ hb_ hl_ hC_
     refine hK.out _ _ ⟨((blk_cell Kgb0.out 0).trans rfl), ((blk_cell Kgb0.out 1).trans rfl), ((blk_cell Kgb0.out 2).trans rfl), ((blk_cell Kgb0.out 3).trans rfl), ((blk_cell Kgb1.out 0).trans rfl), ((blk_cell Kgb1.out 1).trans rfl), ((blk_cell Kgb1.out 2).trans rfl), ((blk_cell Kgb1.out 3).trans rfl)⟩ (fun hHeld => ?_)
     clear hK K
     refine norm_ (a' := ?_) ?_ ?_
     rotate_left
     ·show Act.put _ (some 140) _ = _
      simp only [Act.put, List.setIfInBounds_toArray, List.set_cons_zero, List.set_cons_succ, i64_w, i32_w]
      rfl
     refine two_ (i := 7) (j := 12) (Ni := some 142) (Nj := some 21) #[true, true, true, true, true, true, true, true, false, false, false, false, false, false, false] #[true, true, true, true, true, true, true, false, false, false, false, false, true, false, false] rfl rfl rfl rfl (by kernel_rfl) (by decide) (by decide) (fun K hK => ?_) (fun K hK => ?_)
     ·skip
      refine goes_ Try.func77 (by kernel_rfl) rfl #[.slice A3_0 l3_0.length c3_0] (by rfl) rfl rfl (by simp only [List.map_toArray, List.map_cons, List.map_nil]; rfl) ?_
      with_reducible refine (laws_toIntS.calls k A3_0 c3_0 l3_0 x3_0 _ (Kd.C_below HR3.out HB.out) HC3.out HT3.out).mono ?_
      rintro e w57 ⟨vt_, rfl, hr_, hb_⟩
      refine ⟨_, rfl, ?_⟩
      replace HB := mk (below_then HB.out HB.out.size hb_)
      replace Kgb0 := mk (blk_below Kgb0.out hb_)
      replace Kgb1 := mk (blk_below Kgb1.out hb_)
      replace Kgw := mk (blk_below Kgw.out hb_)
      replace Kgg := mk (blk_below Kgg.out hb_)
      replace Rw := mk (Kd.R_below Rw.out hb_)
      replace Rg := mk (Kd.R_below Rg.out hb_)
      replace HT_0 := mk (Kd.C_below HT_0.out hb_)
      replace HT_1 := mk (Kd.C_below HT_1.out hb_)
      replace HT_2 := mk (Kd.C_below HT_2.out hb_)
      replace HZh := mk (Nat.le_trans HZh.out hb_.size)
      obtain ⟨At3, ct3, rfl, hl_, hC_⟩ := Kd.R_reads hr_
      have HT_3 := mk hC_
      have HL_3 := mk hl_
      clear hr_ hb_ hl_ hC_
      refine hK.out _ _ ⟨((blk_cell Kgb0.out 0).trans rfl), ((blk_cell Kgb0.out 1).trans rfl), ((blk_cell Kgb0.out 2).trans rfl), ((blk_cell Kgb0.out 3).trans rfl), ((blk_cell Kgb1.out 0).trans rfl), ((blk_cell Kgb1.out 1).trans rfl), ((blk_cell Kgb1.out 2).trans rfl), ((blk_cell Kgb1.out 3).trans rfl)⟩ (fun hHeld => ?_)
      clear hK K
      refine norm_ (a' := ?_) ?_ ?_
      rotate_left
      ·show Act.put _ (some 142) _ = _
       simp only [Act.put, List.setIfInBounds_toArray, List.set_cons_zero, List.set_cons_succ, i64_w, i32_w]
       rfl
      refine two_ (i := 8) (j := 12) (Ni := some 143) (Nj := some 21) #[true, true, true, true, true, true, true, true, true, false, false, false, false, false, false] #[true, true, true, true, true, true, true, true, false, false, false, false, true, false, false] rfl rfl rfl rfl (by kernel_rfl) (by decide) (by decide) (fun K hK => ?_) (fun K hK => ?_)
      ·skip
       refine goes_ Try.func78 (by kernel_rfl) rfl #[.agg #[.int .i64 x0_0, .int .i64 x0_1, .int .i64 x0_2, .slice At0 x0_3.length ct0], .agg #[.int .i64 x1_0, .int .i64 x1_1, .int .i64 x1_2, .slice At1 x1_3.length ct1], .slice At2 x2_0.length ct2, .slice At3 x3_0.length ct3] (by rfl) rfl rfl (by simp only [List.map_toArray, List.map_cons, List.map_nil]; rfl) ?_
       with_reducible refine (impl_RedrawTiles.calls k x0_0 x0_1 x0_2 At0 ct0 x0_3 x1_0 x1_1 x1_2 At1 ct1 x1_3 At2 ct2 x2_0 At3 ct3 x3_0 v0 v1 v2 v3 vok _ HT_0.out HL_0.out HT_1.out HL_1.out HT_2.out HL_2.out HT_3.out HL_3.out HIM.out).mono ?_
       rintro e w58 ⟨vw_, rfl, hr_, hb_⟩
       refine ⟨_, rfl, ?_⟩
       have HZp_ := HZh
       have HBp_ := HB
       replace HB := mk (below_then HB.out HB.out.size hb_)
       replace Kgb0 := mk (blk_below Kgb0.out hb_)
       replace Kgb1 := mk (blk_below Kgb1.out hb_)
       replace Kgw := mk (blk_below Kgw.out hb_)
       replace Kgg := mk (blk_below Kgg.out hb_)
       replace Rw := mk (Kd.R_below Rw.out hb_)
       replace Rg := mk (Kd.R_below Rg.out hb_)
       replace HT_0 := mk (Kd.C_below HT_0.out hb_)
       replace HT_1 := mk (Kd.C_below HT_1.out hb_)
       replace HT_2 := mk (Kd.C_below HT_2.out hb_)
       replace HT_3 := mk (Kd.C_below HT_3.out hb_)
       replace HZh := mk (Nat.le_trans HZh.out hb_.size)
       have Rh := mk (Kd.R_lower (Kd.R_mono (Kd.R_bound hr_) (fun k_ hk_ => (⟨Nat.le_trans HZp_.out hk_.2.1, hk_.2.2.1⟩ : w52.heap.size ≤ k_ ∧ k_ < w58.heap.size))) HBp_.out.size)
       clear hr_ hb_ HZp_ HBp_
       refine hK.out _ _ ⟨((blk_cell Kgb0.out 0).trans rfl), ((blk_cell Kgb0.out 1).trans rfl), ((blk_cell Kgb0.out 2).trans rfl), ((blk_cell Kgb0.out 3).trans rfl), ((blk_cell Kgb1.out 0).trans rfl), ((blk_cell Kgb1.out 1).trans rfl), ((blk_cell Kgb1.out 2).trans rfl), ((blk_cell Kgb1.out 3).trans rfl)⟩ (fun hHeld => ?_)
       clear hK K
       refine norm_ (a' := ?_) ?_ ?_
       rotate_left
       ·show Act.put _ (some 143) _ = _
        simp only [Act.put, List.setIfInBounds_toArray, List.set_cons_zero, List.set_cons_succ, i64_w, i32_w]
        rfl
       refine pure_ (i := 9) (N := some 134) (v := ?_) (a' := ?_) #[true, true, true, true, true, true, true, true, true, true, false, false, false, false, false] rfl rfl (by kernel_rfl) (fun _ _ _ h => h) (Or.inl ⟨by rfl, ?_⟩) ?_ ?_
       rotate_left
       ·intro w'
        go_simp
        with_reducible rfl
       rotate_left
       ·simp only [Act.put, List.setIfInBounds_toArray, List.set_cons_zero, List.set_cons_succ, i64_w, i32_w]
        rfl
       refine pure_ (i := 10) (N := some 144) (v := ?_) (a' := ?_) #[true, true, true, true, true, true, true, true, true, true, true, false, false, false, false] rfl rfl (by kernel_rfl) (fun _ _ _ h => h) (Or.inl ⟨by rfl, ?_⟩) ?_ ?_
       rotate_left
       ·intro w'
        go_simp
        with_reducible rfl
       rotate_left
       ·simp only [Act.put, List.setIfInBounds_toArray, List.set_cons_zero, List.set_cons_succ, i64_w, i32_w]
        rfl
       refine pure_ (i := 11) (N := some 145) (v := ?_) (a' := ?_) #[true, true, true, true, true, true, true, true, true, true, true, true, false, false, false] rfl rfl (by kernel_rfl) (fun _ _ _ h => h) (Or.inl ⟨by rfl, ?_⟩) ?_ ?_
       rotate_left
       ·intro w'
        go_simp
        with_reducible rfl
       rotate_left
       ·simp only [Act.put, List.setIfInBounds_toArray, List.set_cons_zero, List.set_cons_succ, i64_w, i32_w]
        rfl
       refine one_ (i := 12) (N := some 21) #[true, true, true, true, true, true, true, true, true, true, true, true, true, false, false] rfl rfl (by kernel_rfl) (by decide) (fun K hK => ?_)
       refine value_ (w1 := ?_) (v := ?_) (by rfl) rfl ?_ ?_
       rotate_left 2
       ·go_simp
        constructor
        ·rfl
        rfl
       replace HB := mk (below_alloc HB.out (.cells #[.int .i64 0, .int .i64 0, .int .i64 0, .slice none 0 0] 27))
       replace Kgb0 := mk (blk_alloc Kgb0.out (.cells #[.int .i64 0, .int .i64 0, .int .i64 0, .slice none 0 0] 27))
       replace Kgb1 := mk (blk_alloc Kgb1.out (.cells #[.int .i64 0, .int .i64 0, .int .i64 0, .slice none 0 0] 27))
       replace Kgw := mk (blk_alloc Kgw.out (.cells #[.int .i64 0, .int .i64 0, .int .i64 0, .slice none 0 0] 27))
       replace Kgg := mk (blk_alloc Kgg.out (.cells #[.int .i64 0, .int .i64 0, .int .i64 0, .slice none 0 0] 27))
       replace Rw := mk (Kd.R_alloc Rw.out (.cells #[.int .i64 0, .int .i64 0, .int .i64 0, .slice none 0 0] 27))
       replace Rg := mk (Kd.R_alloc Rg.out (.cells #[.int .i64 0, .int .i64 0, .int .i64 0, .slice none 0 0] 27))
       replace HT_0 := mk (Kd.C_alloc HT_0.out (.cells #[.int .i64 0, .int .i64 0, .int .i64 0, .slice none 0 0] 27))
       replace HT_1 := mk (Kd.C_alloc HT_1.out (.cells #[.int .i64 0, .int .i64 0, .int .i64 0, .slice none 0 0] 27))
       replace HT_2 := mk (Kd.C_alloc HT_2.out (.cells #[.int .i64 0, .int .i64 0, .int .i64 0, .slice none 0 0] 27))
       replace HT_3 := mk (Kd.C_alloc HT_3.out (.cells #[.int .i64 0, .int .i64 0, .int .i64 0, .slice none 0 0] 27))
       replace Rh := mk (Kd.R_mono (Kd.R_bound (Kd.R_alloc Rh.out (.cells #[.int .i64 0, .int .i64 0, .int .i64 0, .slice none 0 0] 27))) (fun k_ hk_ => (⟨hk_.1.1, hk_.2.2.1⟩ : w52.heap.size ≤ k_ ∧ k_ < (w58.alloc (.cells #[.int .i64 0, .int .i64 0, .int .i64 0, .slice none 0 0] 27)).heap.size)))
       have KA_ := mk (blk_new w58 (.cells #[.int .i64 0, .int .i64 0, .int .i64 0, .slice none 0 0] 27 (0, 0)))
       have GA_ := HZh
       replace HZh := mk (Nat.le_trans HZh.out (below_alloc (Below.refl _ _) (.cells #[.int .i64 0, .int .i64 0, .int .i64 0, .slice none 0 0] 27)).size)
       refine hK.out _ _ ⟨((blk_cell Kgb0.out 0).trans rfl), ((blk_cell Kgb0.out 1).trans rfl), ((blk_cell Kgb0.out 2).trans rfl), ((blk_cell Kgb0.out 3).trans rfl), ((blk_cell Kgb1.out 0).trans rfl), ((blk_cell Kgb1.out 1).trans rfl), ((blk_cell Kgb1.out 2).trans rfl), ((blk_cell Kgb1.out 3).trans rfl)⟩ (fun hHeld => ?_)
       clear hK K
       refine norm_ (a' := ?_) ?_ ?_
       rotate_left
       ·show Act.put _ (some 21) _ = _
        simp only [Act.put, List.setIfInBounds_toArray, List.set_cons_zero, List.set_cons_succ, i64_w, i32_w]
        rfl
       exact norm_ (by (simp only [putAll, Act.put, List.setIfInBounds_toArray, List.set_cons_zero, List.set_cons_succ]; done)) (hCont (.slice At0 x0_3.length ct0, .slice At1 x1_3.length ct1, .slice At2 x2_0.length ct2, .slice At3 x3_0.length ct3, vw_, w58.heap.size) _ ⟨Rh.out, KA_.out, GA_.out, Kgb0.out, Kgb1.out, Kgw.out, Kgg.out, Rw.out, Rg.out, HB.out, HZh.out⟩)
      skip
      refine value_ (w1 := ?_) (v := ?_) (by rfl) rfl ?_ ?_
      rotate_left 2
      ·go_simp
       constructor
       ·rfl
       rfl
      replace HB := mk (below_alloc HB.out (.cells #[.int .i64 0, .int .i64 0, .int .i64 0, .slice none 0 0] 27))
      replace Kgb0 := mk (blk_alloc Kgb0.out (.cells #[.int .i64 0, .int .i64 0, .int .i64 0, .slice none 0 0] 27))
      replace Kgb1 := mk (blk_alloc Kgb1.out (.cells #[.int .i64 0, .int .i64 0, .int .i64 0, .slice none 0 0] 27))
      replace Kgw := mk (blk_alloc Kgw.out (.cells #[.int .i64 0, .int .i64 0, .int .i64 0, .slice none 0 0] 27))
      replace Kgg := mk (blk_alloc Kgg.out (.cells #[.int .i64 0, .int .i64 0, .int .i64 0, .slice none 0 0] 27))
      replace Rw := mk (Kd.R_alloc Rw.out (.cells #[.int .i64 0, .int .i64 0, .int .i64 0, .slice none 0 0] 27))
      replace Rg := mk (Kd.R_alloc Rg.out (.cells #[.int .i64 0, .int .i64 0, .int .i64 0, .slice none 0 0] 27))
      replace HT_0 := mk (Kd.C_alloc HT_0.out (.cells #[.int .i64 0, .int .i64 0, .int .i64 0, .slice none 0 0] 27))
      replace HT_1 := mk (Kd.C_alloc HT_1.out (.cells #[.int .i64 0, .int .i64 0, .int .i64 0, .slice none 0 0] 27))
      replace HT_2 := mk (Kd.C_alloc HT_2.out (.cells #[.int .i64 0, .int .i64 0, .int .i64 0, .slice none 0 0] 27))
      replace HT_3 := mk (Kd.C_alloc HT_3.out (.cells #[.int .i64 0, .int .i64 0, .int .i64 0, .slice none 0 0] 27))
      have KA_ := mk (blk_new w57 (.cells #[.int .i64 0, .int .i64 0, .int .i64 0, .slice none 0 0] 27 (0, 0)))
      have GA_ := HZh
      replace HZh := mk (Nat.le_trans HZh.out (below_alloc (Below.refl _ _) (.cells #[.int .i64 0, .int .i64 0, .int .i64 0, .slice none 0 0] 27)).size)
      refine hK.out _ _ ⟨((blk_cell Kgb0.out 0).trans rfl), ((blk_cell Kgb0.out 1).trans rfl), ((blk_cell Kgb0.out 2).trans rfl), ((blk_cell Kgb0.out 3).trans rfl), ((blk_cell Kgb1.out 0).trans rfl), ((blk_cell Kgb1.out 1).trans rfl), ((blk_cell Kgb1.out 2).trans rfl), ((blk_cell Kgb1.out 3).trans rfl)⟩ (fun hHeld => ?_)
      clear hK K
      refine norm_ (a' := ?_) ?_ ?_
      rotate_left
      ·show Act.put _ (some 21) _ = _
       simp only [Act.put, List.setIfInBounds_toArray, List.set_cons_zero, List.set_cons_succ, i64_w, i32_w]
       rfl
      refine one_ (i := 8) (N := some 143) #[true, true, true, true, true, true, true, true, true, false, false, false, true, false, false] rfl rfl (by kernel_rfl) (by decide) (fun K hK => ?_)
      refine goes_ Try.func78 (by kernel_rfl) rfl #[.agg #[.int .i64 x0_0, .int .i64 x0_1, .int .i64 x0_2, .slice At0 x0_3.length ct0], .agg #[.int .i64 x1_0, .int .i64 x1_1, .int .i64 x1_2, .slice At1 x1_3.length ct1], .slice At2 x2_0.length ct2, .slice At3 x3_0.length ct3] (by rfl) rfl rfl (by simp only [List.map_toArray, List.map_cons, List.map_nil]; rfl) ?_
      with_reducible refine (impl_RedrawTiles.calls k x0_0 x0_1 x0_2 At0 ct0 x0_3 x1_0 x1_1 x1_2 At1 ct1 x1_3 At2 ct2 x2_0 At3 ct3 x3_0 v0 v1 v2 v3 vok _ HT_0.out HL_0.out HT_1.out HL_1.out HT_2.out HL_2.out HT_3.out HL_3.out HIM.out).mono ?_
      rintro e w61 ⟨vw_, rfl, hr_, hb_⟩
      refine ⟨_, rfl, ?_⟩
      have HZp_ := HZh
      have HBp_ := HB
      replace HB := mk (below_then HB.out HB.out.size hb_)
      replace Kgb0 := mk (blk_below Kgb0.out hb_)
      replace Kgb1 := mk (blk_below Kgb1.out hb_)
      replace Kgw := mk (blk_below Kgw.out hb_)
      replace Kgg := mk (blk_below Kgg.out hb_)
      replace Rw := mk (Kd.R_below Rw.out hb_)
      replace Rg := mk (Kd.R_below Rg.out hb_)
      replace HT_0 := mk (Kd.C_below HT_0.out hb_)
      replace HT_1 := mk (Kd.C_below HT_1.out hb_)
      replace HT_2 := mk (Kd.C_below HT_2.out hb_)
      replace HT_3 := mk (Kd.C_below HT_3.out hb_)
      replace KA_ := mk (blk_below KA_.out hb_)
      replace HZh := mk (Nat.le_trans HZh.out hb_.size)
      have Rh := mk (Kd.R_lower (Kd.R_mono (Kd.R_bound hr_) (fun k_ hk_ => (⟨Nat.le_trans HZp_.out hk_.2.1, hk_.2.2.1⟩ : w52.heap.size ≤ k_ ∧ k_ < w61.heap.size))) HBp_.out.size)
      clear hr_ hb_ HZp_ HBp_
      refine hK.out _ _ ⟨((blk_cell Kgb0.out 0).trans rfl), ((blk_cell Kgb0.out 1).trans rfl), ((blk_cell Kgb0.out 2).trans rfl), ((blk_cell Kgb0.out 3).trans rfl), ((blk_cell Kgb1.out 0).trans rfl), ((blk_cell Kgb1.out 1).trans rfl), ((blk_cell Kgb1.out 2).trans rfl), ((blk_cell Kgb1.out 3).trans rfl)⟩ (fun hHeld => ?_)
      clear hK K
      refine norm_ (a' := ?_) ?_ ?_
      rotate_left
      ·show Act.put _ (some 143) _ = _
       simp only [Act.put, List.setIfInBounds_toArray, List.set_cons_zero, List.set_cons_succ, i64_w, i32_w]
       rfl
      refine pure_ (i := 9) (N := some 134) (v := ?_) (a' := ?_) #[true, true, true, true, true, true, true, true, true, true, false, false, true, false, false] rfl rfl (by kernel_rfl) (fun _ _ _ h => h) (Or.inl ⟨by rfl, ?_⟩) ?_ ?_
      rotate_left
      ·intro w'
       go_simp
       with_reducible rfl
      rotate_left
      ·simp only [Act.put, List.setIfInBounds_toArray, List.set_cons_zero, List.set_cons_succ, i64_w, i32_w]
       rfl
      refine pure_ (i := 10) (N := some 144) (v := ?_) (a' := ?_) #[true, true, true, true, true, true, true, true, true, true, true, false, true, false, false] rfl rfl (by kernel_rfl) (fun _ _ _ h => h) (Or.inl ⟨by rfl, ?_⟩) ?_ ?_
      rotate_left
      ·intro w'
       go_simp
       with_reducible rfl
      rotate_left
      ·simp only [Act.put, List.setIfInBounds_toArray, List.set_cons_zero, List.set_cons_succ, i64_w, i32_w]
       rfl
      refine pure_ (i := 11) (N := some 145) (v := ?_) (a' := ?_) #[true, true, true, true, true, true, true, true, true, true, true, true, true, false, false] rfl rfl (by kernel_rfl) (fun _ _ _ h => h) (Or.inl ⟨by rfl, ?_⟩) ?_ ?_
      rotate_left
      ·intro w'
       go_simp
       with_reducible rfl
      rotate_left
      ·simp only [Act.put, List.setIfInBounds_toArray, List.set_cons_zero, List.set_cons_succ, i64_w, i32_w]
       rfl
      exact norm_ (by (simp only [putAll, Act.put, List.setIfInBounds_toArray, List.set_cons_zero, List.set_cons_succ]; done)) (hCont (.slice At0 x0_3.length ct0, .slice At1 x1_3.length ct1, .slice At2 x2_0.length ct2, .slice At3 x3_0.length ct3, vw_, w57.heap.size) _ ⟨Rh.out, KA_.out, GA_.out, Kgb0.out, Kgb1.out, Kgw.out, Kgg.out, Rw.out, Rg.out, HB.out, HZh.out⟩)
     skip
     refine value_ (w1 := ?_) (v := ?_) (by rfl) rfl ?_ ?_
     rotate_left 2
     ·go_simp
      constructor
      ·rfl
      rfl
     replace HB := mk (below_alloc HB.out (.cells #[.int .i64 0, .int .i64 0, .int .i64 0, .slice none 0 0] 27))
     replace Kgb0 := mk (blk_alloc Kgb0.out (.cells #[.int .i64 0, .int .i64 0, .int .i64 0, .slice none 0 0] 27))
     replace Kgb1 := mk (blk_alloc Kgb1.out (.cells #[.int .i64 0, .int .i64 0, .int .i64 0, .slice none 0 0] 27))
     replace Kgw := mk (blk_alloc Kgw.out (.cells #[.int .i64 0, .int .i64 0, .int .i64 0, .slice none 0 0] 27))
     replace Kgg := mk (blk_alloc Kgg.out (.cells #[.int .i64 0, .int .i64 0, .int .i64 0, .slice none 0 0] 27))
     replace Rw := mk (Kd.R_alloc Rw.out (.cells #[.int .i64 0, .int .i64 0, .int .i64 0, .slice none 0 0] 27))
     replace Rg := mk (Kd.R_alloc Rg.out (.cells #[.int .i64 0, .int .i64 0, .int .i64 0, .slice none 0 0] 27))
     replace HT_0 := mk (Kd.C_alloc HT_0.out (.cells #[.int .i64 0, .int .i64 0, .int .i64 0, .slice none 0 0] 27))
     replace HT_1 := mk (Kd.C_alloc HT_1.out (.cells #[.int .i64 0, .int .i64 0, .int .i64 0, .slice none 0 0] 27))
     replace HT_2 := mk (Kd.C_alloc HT_2.out (.cells #[.int .i64 0, .int .i64 0, .int .i64 0, .slice none 0 0] 27))
     have KA_ := mk (blk_new w56 (.cells #[.int .i64 0, .int .i64 0, .int .i64 0, .slice none 0 0] 27 (0, 0)))
     have GA_ := HZh
     replace HZh := mk (Nat.le_trans HZh.out (below_alloc (Below.refl _ _) (.cells #[.int .i64 0, .int .i64 0, .int .i64 0, .slice none 0 0] 27)).size)
     refine hK.out _ _ ⟨((blk_cell Kgb0.out 0).trans rfl), ((blk_cell Kgb0.out 1).trans rfl), ((blk_cell Kgb0.out 2).trans rfl), ((blk_cell Kgb0.out 3).trans rfl), ((blk_cell Kgb1.out 0).trans rfl), ((blk_cell Kgb1.out 1).trans rfl), ((blk_cell Kgb1.out 2).trans rfl), ((blk_cell Kgb1.out 3).trans rfl)⟩ (fun hHeld => ?_)
     clear hK K
     refine norm_ (a' := ?_) ?_ ?_
     rotate_left
     ·show Act.put _ (some 21) _ = _
      simp only [Act.put, List.setIfInBounds_toArray, List.set_cons_zero, List.set_cons_succ, i64_w, i32_w]
      rfl
     refine one_ (i := 7) (N := some 142) #[true, true, true, true, true, true, true, true, false, false, false, false, true, false, false] rfl rfl (by kernel_rfl) (by decide) (fun K hK => ?_)
     refine goes_ Try.func77 (by kernel_rfl) rfl #[.slice A3_0 l3_0.length c3_0] (by rfl) rfl rfl (by simp only [List.map_toArray, List.map_cons, List.map_nil]; rfl) ?_
     with_reducible refine (laws_toIntS.calls k A3_0 c3_0 l3_0 x3_0 _ (Kd.C_below HR3.out HB.out) HC3.out HT3.out).mono ?_
     rintro e w63 ⟨vt_, rfl, hr_, hb_⟩
     refine ⟨_, rfl, ?_⟩
     replace HB := mk (below_then HB.out HB.out.size hb_)
     replace Kgb0 := mk (blk_below Kgb0.out hb_)
     replace Kgb1 := mk (blk_below Kgb1.out hb_)
     replace Kgw := mk (blk_below Kgw.out hb_)
     replace Kgg := mk (blk_below Kgg.out hb_)
     replace Rw := mk (Kd.R_below Rw.out hb_)
     replace Rg := mk (Kd.R_below Rg.out hb_)
     replace HT_0 := mk (Kd.C_below HT_0.out hb_)
     replace HT_1 := mk (Kd.C_below HT_1.out hb_)
     replace HT_2 := mk (Kd.C_below HT_2.out hb_)
     replace KA_ := mk (blk_below KA_.out hb_)
     replace HZh := mk (Nat.le_trans HZh.out hb_.size)
     obtain ⟨At3, ct3, rfl, hl_, hC_⟩ := Kd.R_reads hr_
     have HT_3 := mk hC_
     have HL_3 := mk hl_
     clear hr_ hb_ hl_ hC_
     refine hK.out _ _ ⟨((blk_cell Kgb0.out 0).trans rfl), ((blk_cell Kgb0.out 1).trans rfl), ((blk_cell Kgb0.out 2).trans rfl), ((blk_cell Kgb0.out 3).trans rfl), ((blk_cell Kgb1.out 0).trans rfl), ((blk_cell Kgb1.out 1).trans rfl), ((blk_cell Kgb1.out 2).trans rfl), ((blk_cell Kgb1.out 3).trans rfl)⟩ (fun hHeld => ?_)
     clear hK K
     refine norm_ (a' := ?_) ?_ ?_
     rotate_left
     ·show Act.put _ (some 142) _ = _
      simp only [Act.put, List.setIfInBounds_toArray, List.set_cons_zero, List.set_cons_succ, i64_w, i32_w]
      rfl
     refine one_ (i := 8) (N := some 143) #[true, true, true, true, true, true, true, true, true, false, false, false, true, false, false] rfl rfl (by kernel_rfl) (by decide) (fun K hK => ?_)
     refine goes_ Try.func78 (by kernel_rfl) rfl #[.agg #[.int .i64 x0_0, .int .i64 x0_1, .int .i64 x0_2, .slice At0 x0_3.length ct0], .agg #[.int .i64 x1_0, .int .i64 x1_1, .int .i64 x1_2, .slice At1 x1_3.length ct1], .slice At2 x2_0.length ct2, .slice At3 x3_0.length ct3] (by rfl) rfl rfl (by simp only [List.map_toArray, List.map_cons, List.map_nil]; rfl) ?_
     with_reducible refine (impl_RedrawTiles.calls k x0_0 x0_1 x0_2 At0 ct0 x0_3 x1_0 x1_1 x1_2 At1 ct1 x1_3 At2 ct2 x2_0 At3 ct3 x3_0 v0 v1 v2 v3 vok _ HT_0.out HL_0.out HT_1.out HL_1.out HT_2.out HL_2.out HT_3.out HL_3.out HIM.out).mono ?_
     rintro e w64 ⟨vw_, rfl, hr_, hb_⟩
     refine ⟨_, rfl, ?_⟩
     have HZp_ := HZh
     have HBp_ := HB
     replace HB := mk (below_then HB.out HB.out.size hb_)
     replace Kgb0 := mk (blk_below Kgb0.out hb_)
     replace Kgb1 := mk (blk_below Kgb1.out hb_)
     replace Kgw := mk (blk_below Kgw.out hb_)
     replace Kgg := mk (blk_below Kgg.out hb_)
     replace Rw := mk (Kd.R_below Rw.out hb_)
     replace Rg := mk (Kd.R_below Rg.out hb_)
     replace HT_0 := mk (Kd.C_below HT_0.out hb_)
     replace HT_1 := mk (Kd.C_below HT_1.out hb_)
     replace HT_2 := mk (Kd.C_below HT_2.out hb_)
     replace HT_3 := mk (Kd.C_below HT_3.out hb_)
     replace KA_ := mk (blk_below KA_.out hb_)
     replace HZh := mk (Nat.le_trans HZh.out hb_.size)
     have Rh := mk (Kd.R_lower (Kd.R_mono (Kd.R_bound hr_) (fun k_ hk_ => (⟨Nat.le_trans HZp_.out hk_.2.1, hk_.2.2.1⟩ : w52.heap.size ≤ k_ ∧ k_ < w64.heap.size))) HBp_.out.size)
     clear hr_ hb_ HZp_ HBp_
     refine hK.out _ _ ⟨((blk_cell Kgb0.out 0).trans rfl), ((blk_cell Kgb0.out 1).trans rfl), ((blk_cell Kgb0.out 2).trans rfl), ((blk_cell Kgb0.out 3).trans rfl), ((blk_cell Kgb1.out 0).trans rfl), ((blk_cell Kgb1.out 1).trans rfl), ((blk_cell Kgb1.out 2).trans rfl), ((blk_cell Kgb1.out 3).trans rfl)⟩ (fun hHeld => ?_)
     clear hK K
     refine norm_ (a' := ?_) ?_ ?_
     rotate_left
     ·show Act.put _ (some 143) _ = _
      simp only [Act.put, List.setIfInBounds_toArray, List.set_cons_zero, List.set_cons_succ, i64_w, i32_w]
      rfl
     refine pure_ (i := 9) (N := some 134) (v := ?_) (a' := ?_) #[true, true, true, true, true, true, true, true, true, true, false, false, true, false, false] rfl rfl (by kernel_rfl) (fun _ _ _ h => h) (Or.inl ⟨by rfl, ?_⟩) ?_ ?_
     rotate_left
     ·intro w'
      go_simp
      with_reducible rfl
     rotate_left
     ·simp only [Act.put, List.setIfInBounds_toArray, List.set_cons_zero, List.set_cons_succ, i64_w, i32_w]
      rfl
     refine pure_ (i := 10) (N := some 144) (v := ?_) (a' := ?_) #[true, true, true, true, true, true, true, true, true, true, true, false, true, false, false] rfl rfl (by kernel_rfl) (fun _ _ _ h => h) (Or.inl ⟨by rfl, ?_⟩) ?_ ?_
     rotate_left
     ·intro w'
      go_simp
      with_reducible rfl
     rotate_left
     ·simp only [Act.put, List.setIfInBounds_toArray, List.set_cons_zero, List.set_cons_succ, i64_w, i32_w]
      rfl
     refine pure_ (i := 11) (N := some 145) (v := ?_) (a' := ?_) #[true, true, true, true, true, true, true, true, true, true, true, true, true, false, false] rfl rfl (by kernel_rfl) (fun _ _ _ h => h) (Or.inl ⟨by rfl, ?_⟩) ?_ ?_
     rotate_left
     ·intro w'
      go_simp
      with_reducible rfl
     rotate_left
     ·simp only [Act.put, List.setIfInBounds_toArray, List.set_cons_zero, List.set_cons_succ, i64_w, i32_w]
      rfl
     exact norm_ (by (simp only [putAll, Act.put, List.setIfInBounds_toArray, List.set_cons_zero, List.set_cons_succ]; done)) (hCont (.slice At0 x0_3.length ct0, .slice At1 x1_3.length ct1, .slice At2 x2_0.length ct2, .slice At3 x3_0.length ct3, vw_, w56.heap.size) _ ⟨Rh.out, KA_.out, GA_.out, Kgb0.out, Kgb1.out, Kgw.out, Kgg.out, Rw.out, Rg.out, HB.out, HZh.out⟩)
    skip
    refine value_ (w1 := ?_) (v := ?_) (by rfl) rfl ?_ ?_
    rotate_left 2
    ·go_simp
     constructor
     ·rfl
     rfl
    replace HB := mk (below_alloc HB.out (.cells #[.int .i64 0, .int .i64 0, .int .i64 0, .slice none 0 0] 27))
    replace Kgb0 := mk (blk_alloc Kgb0.out (.cells #[.int .i64 0, .int .i64 0, .int .i64 0, .slice none 0 0] 27))
    replace Kgb1 := mk (blk_alloc Kgb1.out (.cells #[.int .i64 0, .int .i64 0, .int .i64 0, .slice none 0 0] 27))
    replace Kgw := mk (blk_alloc Kgw.out (.cells #[.int .i64 0, .int .i64 0, .int .i64 0, .slice none 0 0] 27))
    replace Kgg := mk (blk_alloc Kgg.out (.cells #[.int .i64 0, .int .i64 0, .int .i64 0, .slice none 0 0] 27))
    replace Rw := mk (Kd.R_alloc Rw.out (.cells #[.int .i64 0, .int .i64 0, .int .i64 0, .slice none 0 0] 27))
    replace Rg := mk (Kd.R_alloc Rg.out (.cells #[.int .i64 0, .int .i64 0, .int .i64 0, .slice none 0 0] 27))
    replace HT_0 := mk (Kd.C_alloc HT_0.out (.cells #[.int .i64 0, .int .i64 0, .int .i64 0, .slice none 0 0] 27))
    replace HT_1 := mk (Kd.C_alloc HT_1.out (.cells #[.int .i64 0, .int .i64 0, .int .i64 0, .slice none 0 0] 27))
    have KA_ := mk (blk_new w55 (.cells #[.int .i64 0, .int .i64 0, .int .i64 0, .slice none 0 0] 27 (0, 0)))
    have GA_ := HZh
    replace HZh := mk (Nat.le_trans HZh.out (below_alloc (Below.refl _ _) (.cells #[.int .i64 0, .int .i64 0, .int .i64 0, .slice none 0 0] 27)).size)
    refine hK.out _ _ ⟨((blk_cell Kgb0.out 0).trans rfl), ((blk_cell Kgb0.out 1).trans rfl), ((blk_cell Kgb0.out 2).trans rfl), ((blk_cell Kgb0.out 3).trans rfl), ((blk_cell Kgb1.out 0).trans rfl), ((blk_cell Kgb1.out 1).trans rfl), ((blk_cell Kgb1.out 2).trans rfl), ((blk_cell Kgb1.out 3).trans rfl)⟩ (fun hHeld => ?_)
    clear hK K
    refine norm_ (a' := ?_) ?_ ?_
    rotate_left
    ·show Act.put _ (some 21) _ = _
     simp only [Act.put, List.setIfInBounds_toArray, List.set_cons_zero, List.set_cons_succ, i64_w, i32_w]
     rfl
    refine one_ (i := 5) (N := some 140) #[true, true, true, true, true, true, true, false, false, false, false, false, true, false, false] rfl rfl (by kernel_rfl) (by decide) (fun K hK => ?_)
    refine goes_ Try.func66 (by kernel_rfl) rfl #[.slice A2_0 l2_0.length c2_0] (by rfl) rfl rfl (by simp only [List.map_toArray, List.map_cons, List.map_nil]; rfl) ?_
    with_reducible refine (laws_toLayerS.calls k A2_0 c2_0 l2_0 x2_0 _ (Kd.C_below HR2.out HB.out) HC2.out HT2.out).mono ?_
    rintro e w66 ⟨vt_, rfl, hr_, hb_⟩
    refine ⟨_, rfl, ?_⟩
    replace HB := mk (below_then HB.out HB.out.size hb_)
    replace Kgb0 := mk (blk_below Kgb0.out hb_)
    replace Kgb1 := mk (blk_below Kgb1.out hb_)
    replace Kgw := mk (blk_below Kgw.out hb_)
    replace Kgg := mk (blk_below Kgg.out hb_)
    replace Rw := mk (Kd.R_below Rw.out hb_)
    replace Rg := mk (Kd.R_below Rg.out hb_)
    replace HT_0 := mk (Kd.C_below HT_0.out hb_)
    replace HT_1 := mk (Kd.C_below HT_1.out hb_)
    replace KA_ := mk (blk_below KA_.out hb_)
    replace HZh := mk (Nat.le_trans HZh.out hb_.size)
    obtain ⟨At2, ct2, rfl, hl_, hC_⟩ := Kd.S_reads hr_
    have HT_2 := mk hC_
    have HL_2 := mk hl_
    clear hr_ hb_ hl_ hC_
    refine hK.out _ _ ⟨((blk_cell Kgb0.out 0).trans rfl), ((blk_cell Kgb0.out 1).trans rfl), ((blk_cell Kgb0.out 2).trans rfl), ((blk_cell Kgb0.out 3).trans rfl), ((blk_cell Kgb1.out 0).trans rfl), ((blk_cell Kgb1.out 1).trans rfl), ((blk_cell Kgb1.out 2).trans rfl), ((blk_cell Kgb1.out 3).trans rfl)⟩ (fun hHeld => ?_)
    clear hK K
    refine norm_ (a' := ?_) ?_ ?_
    rotate_left
    ·show Act.put _ (some 140) _ = _
     simp only [Act.put, List.setIfInBounds_toArray, List.set_cons_zero, List.set_cons_succ, i64_w, i32_w]
     rfl
    refine one_ (i := 7) (N := some 142) #[true, true, true, true, true, true, true, true, false, false, false, false, true, false, false] rfl rfl (by kernel_rfl) (by decide) (fun K hK => ?_)
    refine goes_ Try.func77 (by kernel_rfl) rfl #[.slice A3_0 l3_0.length c3_0] (by rfl) rfl rfl (by simp only [List.map_toArray, List.map_cons, List.map_nil]; rfl) ?_
    with_reducible refine (laws_toIntS.calls k A3_0 c3_0 l3_0 x3_0 _ (Kd.C_below HR3.out HB.out) HC3.out HT3.out).mono ?_
    rintro e w67 ⟨vt_, rfl, hr_, hb_⟩
    refine ⟨_, rfl, ?_⟩
    replace HB := mk (below_then HB.out HB.out.size hb_)
    replace Kgb0 := mk (blk_below Kgb0.out hb_)
    replace Kgb1 := mk (blk_below Kgb1.out hb_)
    replace Kgw := mk (blk_below Kgw.out hb_)
    replace Kgg := mk (blk_below Kgg.out hb_)
    replace Rw := mk (Kd.R_below Rw.out hb_)
    replace Rg := mk (Kd.R_below Rg.out hb_)
    replace HT_0 := mk (Kd.C_below HT_0.out hb_)
    replace HT_1 := mk (Kd.C_below HT_1.out hb_)
    replace HT_2 := mk (Kd.C_below HT_2.out hb_)
    replace KA_ := mk (blk_below KA_.out hb_)
    replace HZh := mk (Nat.le_trans HZh.out hb_.size)
    obtain ⟨At3, ct3, rfl, hl_, hC_⟩ := Kd.R_reads hr_
    have HT_3 := mk hC_
    have HL_3 := mk hl_
    clear hr_ hb_ hl_ hC_
    refine hK.out _ _ ⟨((blk_cell Kgb0.out 0).trans rfl), ((blk_cell Kgb0.out 1).trans rfl), ((blk_cell Kgb0.out 2).trans rfl), ((blk_cell Kgb0.out 3).trans rfl), ((blk_cell Kgb1.out 0).trans rfl), ((blk_cell Kgb1.out 1).trans rfl), ((blk_cell Kgb1.out 2).trans rfl), ((blk_cell Kgb1.out 3).trans rfl)⟩ (fun hHeld => ?_)
    clear hK K
    refine norm_ (a' := ?_) ?_ ?_
    rotate_left
    ·show Act.put _ (some 142) _ = _
     simp only [Act.put, List.setIfInBounds_toArray, List.set_cons_zero, List.set_cons_succ, i64_w, i32_w]
     rfl
    refine one_ (i := 8) (N := some 143) #[true, true, true, true, true, true, true, true, true, false, false, false, true, false, false] rfl rfl (by kernel_rfl) (by decide) (fun K hK => ?_)
    refine goes_ Try.func78 (by kernel_rfl) rfl #[.agg #[.int .i64 x0_0, .int .i64 x0_1, .int .i64 x0_2, .slice At0 x0_3.length ct0], .agg #[.int .i64 x1_0, .int .i64 x1_1, .int .i64 x1_2, .slice At1 x1_3.length ct1], .slice At2 x2_0.length ct2, .slice At3 x3_0.length ct3] (by rfl) rfl rfl (by simp only [List.map_toArray, List.map_cons, List.map_nil]; rfl) ?_
    with_reducible refine (impl_RedrawTiles.calls k x0_0 x0_1 x0_2 At0 ct0 x0_3 x1_0 x1_1 x1_2 At1 ct1 x1_3 At2 ct2 x2_0 At3 ct3 x3_0 v0 v1 v2 v3 vok _ HT_0.out HL_0.out HT_1.out HL_1.out HT_2.out HL_2.out HT_3.out HL_3.out HIM.out).mono ?_
    rintro e w68 ⟨vw_, rfl, hr_, hb_⟩
    refine ⟨_, rfl, ?_⟩
    have HZp_ := HZh
    have HBp_ := HB
    replace HB := mk (below_then HB.out HB.out.size hb_)
    replace Kgb0 := mk (blk_below Kgb0.out hb_)
    replace Kgb1 := mk (blk_below Kgb1.out hb_)
    replace Kgw := mk (blk_below Kgw.out hb_)
    replace Kgg := mk (blk_below Kgg.out hb_)
    replace Rw := mk (Kd.R_below Rw.out hb_)
    replace Rg := mk (Kd.R_below Rg.out hb_)
    replace HT_0 := mk (Kd.C_below HT_0.out hb_)
    replace HT_1 := mk (Kd.C_below HT_1.out hb_)
    replace HT_2 := mk (Kd.C_below HT_2.out hb_)
    replace HT_3 := mk (Kd.C_below HT_3.out hb_)
    replace KA_ := mk (blk_below KA_.out hb_)
    replace HZh := mk (Nat.le_trans HZh.out hb_.size)
    have Rh := mk (Kd.R_lower (Kd.R_mono (Kd.R_bound hr_) (fun k_ hk_ => (⟨Nat.le_trans HZp_.out hk_.2.1, hk_.2.2.1⟩ : w52.heap.size ≤ k_ ∧ k_ < w68.heap.size))) HBp_.out.size)
    clear hr_ hb_ HZp_ HBp_
    refine hK.out _ _ ⟨((blk_cell Kgb0.out 0).trans rfl), ((blk_cell Kgb0.out 1).trans rfl), ((blk_cell Kgb0.out 2).trans rfl), ((blk_cell Kgb0.out 3).trans rfl), ((blk_cell Kgb1.out 0).trans rfl), ((blk_cell Kgb1.out 1).trans rfl), ((blk_cell Kgb1.out 2).trans rfl), ((blk_cell Kgb1.out 3).trans rfl)⟩ (fun hHeld => ?_)
    clear hK K
    refine norm_ (a' := ?_) ?_ ?_
    rotate_left
    ·show Act.put _ (some 143) _ = _
     simp only [Act.put, List.setIfInBounds_toArray, List.set_cons_zero, List.set_cons_succ, i64_w, i32_w]
     rfl
    refine pure_ (i := 9) (N := some 134) (v := ?_) (a' := ?_) #[true, true, true, true, true, true, true, true, true, true, false, false, true, false, false] rfl rfl (by kernel_rfl) (fun _ _ _ h => h) (Or.inl ⟨by rfl, ?_⟩) ?_ ?_
    rotate_left
    ·intro w'
     go_simp
     with_reducible rfl
    rotate_left
    ·simp only [Act.put, List.setIfInBounds_toArray, List.set_cons_zero, List.set_cons_succ, i64_w, i32_w]
     rfl
    refine pure_ (i := 10) (N := some 144) (v := ?_) (a' := ?_) #[true, true, true, true, true, true, true, true, true, true, true, false, true, false, false] rfl rfl (by kernel_rfl) (fun _ _ _ h => h) (Or.inl ⟨by rfl, ?_⟩) ?_ ?_
    rotate_left
    ·intro w'
     go_simp
     with_reducible rfl
    rotate_left
    ·simp only [Act.put, List.setIfInBounds_toArray, List.set_cons_zero, List.set_cons_succ, i64_w, i32_w]
     rfl
    refine pure_ (i := 11) (N := some 145) (v := ?_) (a' := ?_) #[true, true, true, true, true, true, true, true, true, true, true, true, true, false, false] rfl rfl (by kernel_rfl) (fun _ _ _ h => h) (Or.inl ⟨by rfl, ?_⟩) ?_ ?_
    rotate_left
    ·intro w'
     go_simp
     with_reducible rfl
    rotate_left
    ·simp only [Act.put, List.setIfInBounds_toArray, List.set_cons_zero, List.set_cons_succ, i64_w, i32_w]
     rfl
    exact norm_ (by (simp only [putAll, Act.put, List.setIfInBounds_toArray, List.set_cons_zero, List.set_cons_succ]; done)) (hCont (.slice At0 x0_3.length ct0, .slice At1 x1_3.length ct1, .slice At2 x2_0.length ct2, .slice At3 x3_0.length ct3, vw_, w55.heap.size) _ ⟨Rh.out, KA_.out, GA_.out, Kgb0.out, Kgb1.out, Kgw.out, Kgg.out, Rw.out, Rg.out, HB.out, HZh.out⟩)
   skip
   refine value_ (w1 := ?_) (v := ?_) (by rfl) rfl ?_ ?_
   rotate_left 2
   ·go_simp
    constructor
    ·rfl
    rfl
   replace HB := mk (below_alloc HB.out (.cells #[.int .i64 0, .int .i64 0, .int .i64 0, .slice none 0 0] 27))
   replace Kgb0 := mk (blk_alloc Kgb0.out (.cells #[.int .i64 0, .int .i64 0, .int .i64 0, .slice none 0 0] 27))
   replace Kgb1 := mk (blk_alloc Kgb1.out (.cells #[.int .i64 0, .int .i64 0, .int .i64 0, .slice none 0 0] 27))
   replace Kgw := mk (blk_alloc Kgw.out (.cells #[.int .i64 0, .int .i64 0, .int .i64 0, .slice none 0 0] 27))
   replace Kgg := mk (blk_alloc Kgg.out (.cells #[.int .i64 0, .int .i64 0, .int .i64 0, .slice none 0 0] 27))
   replace Rw := mk (Kd.R_alloc Rw.out (.cells #[.int .i64 0, .int .i64 0, .int .i64 0, .slice none 0 0] 27))
   replace Rg := mk (Kd.R_alloc Rg.out (.cells #[.int .i64 0, .int .i64 0, .int .i64 0, .slice none 0 0] 27))
   replace HT_0 := mk (Kd.C_alloc HT_0.out (.cells #[.int .i64 0, .int .i64 0, .int .i64 0, .slice none 0 0] 27))
   have KA_ := mk (blk_new w54 (.cells #[.int .i64 0, .int .i64 0, .int .i64 0, .slice none 0 0] 27 (0, 0)))
   have GA_ := HZh
   replace HZh := mk (Nat.le_trans HZh.out (below_alloc (Below.refl _ _) (.cells #[.int .i64 0, .int .i64 0, .int .i64 0, .slice none 0 0] 27)).size)
   refine hK.out _ _ ⟨((blk_cell Kgb0.out 0).trans rfl), ((blk_cell Kgb0.out 1).trans rfl), ((blk_cell Kgb0.out 2).trans rfl), ((blk_cell Kgb0.out 3).trans rfl), ((blk_cell Kgb1.out 0).trans rfl), ((blk_cell Kgb1.out 1).trans rfl), ((blk_cell Kgb1.out 2).trans rfl), ((blk_cell Kgb1.out 3).trans rfl)⟩ (fun hHeld => ?_)
   clear hK K
   refine norm_ (a' := ?_) ?_ ?_
   rotate_left
   ·show Act.put _ (some 21) _ = _
    simp only [Act.put, List.setIfInBounds_toArray, List.set_cons_zero, List.set_cons_succ, i64_w, i32_w]
    rfl
   refine one_ (i := 3) (N := some 138) #[true, true, true, true, true, false, true, false, false, false, false, false, true, false, false] rfl rfl (by kernel_rfl) (by decide) (fun K hK => ?_)
   refine goes_ Try.func22 (by kernel_rfl) rfl #[.agg #[.int .i64 a1_0, .int .i64 a1_1, .int .i64 a1_2, .slice A1_3 l1_3.length c1_3]] (by rfl) rfl rfl (by simp only [List.map_toArray, List.map_cons, List.map_nil]; rfl) ?_
   with_reducible refine (laws_toImage.calls k a1_0 a1_1 a1_2 A1_3 c1_3 l1_3 x1_0 x1_1 x1_2 x1_3 _ (Kd.C_below HR1.out HB.out) HC1.out HT1.out).mono ?_
   rintro e w70 ⟨vt_, rfl, hr_, hb_⟩
   refine ⟨_, rfl, ?_⟩
   replace HB := mk (below_then HB.out HB.out.size hb_)
   replace Kgb0 := mk (blk_below Kgb0.out hb_)
   replace Kgb1 := mk (blk_below Kgb1.out hb_)
   replace Kgw := mk (blk_below Kgw.out hb_)
   replace Kgg := mk (blk_below Kgg.out hb_)
   replace Rw := mk (Kd.R_below Rw.out hb_)
   replace Rg := mk (Kd.R_below Rg.out hb_)
   replace HT_0 := mk (Kd.C_below HT_0.out hb_)
   replace KA_ := mk (blk_below KA_.out hb_)
   replace HZh := mk (Nat.le_trans HZh.out hb_.size)
   obtain ⟨At1, ct1, rfl, hl_, hC_⟩ := Kd.R_reads hr_
   have HT_1 := mk hC_
   have HL_1 := mk hl_
   clear hr_ hb_ hl_ hC_
   refine hK.out _ _ ⟨((blk_cell Kgb0.out 0).trans rfl), ((blk_cell Kgb0.out 1).trans rfl), ((blk_cell Kgb0.out 2).trans rfl), ((blk_cell Kgb0.out 3).trans rfl), ((blk_cell Kgb1.out 0).trans rfl), ((blk_cell Kgb1.out 1).trans rfl), ((blk_cell Kgb1.out 2).trans rfl), ((blk_cell Kgb1.out 3).trans rfl)⟩ (fun hHeld => ?_)
   clear hK K
   refine norm_ (a' := ?_) ?_ ?_
   rotate_left
   ·show Act.put _ (some 138) _ = _
    simp only [Act.put, List.setIfInBounds_toArray, List.set_cons_zero, List.set_cons_succ, i64_w, i32_w]
    rfl
   refine one_ (i := 5) (N := some 140) #[true, true, true, true, true, true, true, false, false, false, false, false, true, false, false] rfl rfl (by kernel_rfl) (by decide) (fun K hK => ?_)
   refine goes_ Try.func66 (by kernel_rfl) rfl #[.slice A2_0 l2_0.length c2_0] (by rfl) rfl rfl (by simp only [List.map_toArray, List.map_cons, List.map_nil]; rfl) ?_
   with_reducible refine (laws_toLayerS.calls k A2_0 c2_0 l2_0 x2_0 _ (Kd.C_below HR2.out HB.out) HC2.out HT2.out).mono ?_
   rintro e w71 ⟨vt_, rfl, hr_, hb_⟩
   refine ⟨_, rfl, ?_⟩
   replace HB := mk (below_then HB.out HB.out.size hb_)
   replace Kgb0 := mk (blk_below Kgb0.out hb_)
   replace Kgb1 := mk (blk_below Kgb1.out hb_)
   replace Kgw := mk (blk_below Kgw.out hb_)
   replace Kgg := mk (blk_below Kgg.out hb_)
   replace Rw := mk (Kd.R_below Rw.out hb_)
   replace Rg := mk (Kd.R_below Rg.out hb_)
   replace HT_0 := mk (Kd.C_below HT_0.out hb_)
   replace HT_1 := mk (Kd.C_below HT_1.out hb_)
   replace KA_ := mk (blk_below KA_.out hb_)
   replace HZh := mk (Nat.le_trans HZh.out hb_.size)
   obtain ⟨At2, ct2, rfl, hl_, hC_⟩ := Kd.S_reads hr_
   have HT_2 := mk hC_
   have HL_2 := mk hl_
   clear hr_ hb_ hl_ hC_
   refine hK.out _ _ ⟨((blk_cell Kgb0.out 0).trans rfl), ((blk_cell Kgb0.out 1).trans rfl), ((blk_cell Kgb0.out 2).trans rfl), ((blk_cell Kgb0.out 3).trans rfl), ((blk_cell Kgb1.out 0).trans rfl), ((blk_cell Kgb1.out 1).trans rfl), ((blk_cell Kgb1.out 2).trans rfl), ((blk_cell Kgb1.out 3).trans rfl)⟩ (fun hHeld => ?_)
   clear hK K
   refine norm_ (a' := ?_) ?_ ?_
   rotate_left
   ·show Act.put _ (some 140) _ = _
    simp only [Act.put, List.setIfInBounds_toArray, List.set_cons_zero, List.set_cons_succ, i64_w, i32_w]
    rfl
   refine one_ (i := 7) (N := some 142) #[true, true, true, true, true, true, true, true, false, false, false, false, true, false, false] rfl rfl (by kernel_rfl) (by decide) (fun K hK => ?_)
   refine goes_ Try.func77 (by kernel_rfl) rfl #[.slice A3_0 l3_0.length c3_0] (by rfl) rfl rfl (by simp only [List.map_toArray, List.map_cons, List.map_nil]; rfl) ?_
   with_reducible refine (laws_toIntS.calls k A3_0 c3_0 l3_0 x3_0 _ (Kd.C_below HR3.out HB.out) HC3.out HT3.out).mono ?_
   rintro e w72 ⟨vt_, rfl, hr_, hb_⟩
   refine ⟨_, rfl, ?_⟩
   replace HB := mk (below_then HB.out HB.out.size hb_)
   replace Kgb0 := mk (blk_below Kgb0.out hb_)
   replace Kgb1 := mk (blk_below Kgb1.out hb_)
   replace Kgw := mk (blk_below Kgw.out hb_)
   replace Kgg := mk (blk_below Kgg.out hb_)
   replace Rw := mk (Kd.R_below Rw.out hb_)
   replace Rg := mk (Kd.R_below Rg.out hb_)
   replace HT_0 := mk (Kd.C_below HT_0.out hb_)
   replace HT_1 := mk (Kd.C_below HT_1.out hb_)
   replace HT_2 := mk (Kd.C_below HT_2.out hb_)
   replace KA_ := mk (blk_below KA_.out hb_)
   replace HZh := mk (Nat.le_trans HZh.out hb_.size)
   obtain ⟨At3, ct3, rfl, hl_, hC_⟩ := Kd.R_reads hr_
   have HT_3 := mk hC_
   have HL_3 := mk hl_
   clear hr_ hb_ hl_ hC_
   refine hK.out _ _ ⟨((blk_cell Kgb0.out 0).trans rfl), ((blk_cell Kgb0.out 1).trans rfl), ((blk_cell Kgb0.out 2).trans rfl), ((blk_cell Kgb0.out 3).trans rfl), ((blk_cell Kgb1.out 0).trans rfl), ((blk_cell Kgb1.out 1).trans rfl), ((blk_cell Kgb1.out 2).trans rfl), ((blk_cell Kgb1.out 3).trans rfl)⟩ (fun hHeld => ?_)
   clear hK K
   refine norm_ (a' := ?_) ?_ ?_
   rotate_left
   ·show Act.put _ (some 142) _ = _
    simp only [Act.put, List.setIfInBounds_toArray, List.set_cons_zero, List.set_cons_succ, i64_w, i32_w]
    rfl
   refine one_ (i := 8) (N := some 143) #[true, true, true, true, true, true, true, true, true, false, false, false, true, false, false] rfl rfl (by kernel_rfl) (by decide) (fun K hK => ?_)
   refine goes_ Try.func78 (by kernel_rfl) rfl #[.agg #[.int .i64 x0_0, .int .i64 x0_1, .int .i64 x0_2, .slice At0 x0_3.length ct0], .agg #[.int .i64 x1_0, .int .i64 x1_1, .int .i64 x1_2, .slice At1 x1_3.length ct1], .slice At2 x2_0.length ct2, .slice At3 x3_0.length ct3] (by rfl) rfl rfl (by simp only [List.map_toArray, List.map_cons, List.map_nil]; rfl) ?_
   with_reducible refine (impl_RedrawTiles.calls k x0_0 x0_1 x0_2 At0 ct0 x0_3 x1_0 x1_1 x1_2 At1 ct1 x1_3 At2 ct2 x2_0 At3 ct3 x3_0 v0 v1 v2 v3 vok _ HT_0.out HL_0.out HT_1.out HL_1.out HT_2.out HL_2.out HT_3.out HL_3.out HIM.out).mono ?_
   rintro e w73 ⟨vw_, rfl, hr_, hb_⟩
   refine ⟨_, rfl, ?_⟩
   have HZp_ := HZh
   have HBp_ := HB
   replace HB := mk (below_then HB.out HB.out.size hb_)
   replace Kgb0 := mk (blk_below Kgb0.out hb_)
   replace Kgb1 := mk (blk_below Kgb1.out hb_)
   replace Kgw := mk (blk_below Kgw.out hb_)
   replace Kgg := mk (blk_below Kgg.out hb_)
   replace Rw := mk (Kd.R_below Rw.out hb_)
   replace Rg := mk (Kd.R_below Rg.out hb_)
   replace HT_0 := mk (Kd.C_below HT_0.out hb_)
   replace HT_1 := mk (Kd.C_below HT_1.out hb_)
   replace HT_2 := mk (Kd.C_below HT_2.out hb_)
   replace HT_3 := mk (Kd.C_below HT_3.out hb_)
   replace KA_ := mk (blk_below KA_.out hb_)
   replace HZh := mk (Nat.le_trans HZh.out hb_.size)
   have Rh := mk (Kd.R_lower (Kd.R_mono (Kd.R_bound hr_) (fun k_ hk_ => (⟨Nat.le_trans HZp_.out hk_.2.1, hk_.2.2.1⟩ : w52.heap.size ≤ k_ ∧ k_ < w73.heap.size))) HBp_.out.size)
   clear hr_ hb_ HZp_ HBp_
   refine hK.out _ _ ⟨((blk_cell Kgb0.out 0).trans rfl), ((blk_cell Kgb0.out 1).trans rfl), ((blk_cell Kgb0.out 2).trans rfl), ((blk_cell Kgb0.out 3).trans rfl), ((blk_cell Kgb1.out 0).trans rfl), ((blk_cell Kgb1.out 1).trans rfl), ((blk_cell Kgb1.out 2).trans rfl), ((blk_cell Kgb1.out 3).trans rfl)⟩ (fun hHeld => ?_)
   clear hK K
   refine norm_ (a' := ?_) ?_ ?_
   rotate_left
   ·show Act.put _ (some 143) _ = _
    simp only [Act.put, List.setIfInBounds_toArray, List.set_cons_zero, List.set_cons_succ, i64_w, i32_w]
    rfl
   refine pure_ (i := 9) (N := some 134) (v := ?_) (a' := ?_) #[true, true, true, true, true, true, true, true, true, true, false, false, true, false, false] rfl rfl (by kernel_rfl) (fun _ _ _ h => h) (Or.inl ⟨by rfl, ?_⟩) ?_ ?_
   rotate_left
   ·intro w'
    go_simp
    with_reducible rfl
   rotate_left
   ·simp only [Act.put, List.setIfInBounds_toArray, List.set_cons_zero, List.set_cons_succ, i64_w, i32_w]
    rfl
   refine pure_ (i := 10) (N := some 144) (v := ?_) (a' := ?_) #[true, true, true, true, true, true, true, true, true, true, true, false, true, false, false] rfl rfl (by kernel_rfl) (fun _ _ _ h => h) (Or.inl ⟨by rfl, ?_⟩) ?_ ?_
   rotate_left
   ·intro w'
    go_simp
    with_reducible rfl
   rotate_left
   ·simp only [Act.put, List.setIfInBounds_toArray, List.set_cons_zero, List.set_cons_succ, i64_w, i32_w]
    rfl
   refine pure_ (i := 11) (N := some 145) (v := ?_) (a' := ?_) #[true, true, true, true, true, true, true, true, true, true, true, true, true, false, false] rfl rfl (by kernel_rfl) (fun _ _ _ h => h) (Or.inl ⟨by rfl, ?_⟩) ?_ ?_
   rotate_left
   ·intro w'
    go_simp
    with_reducible rfl
   rotate_left
   ·simp only [Act.put, List.setIfInBounds_toArray, List.set_cons_zero, List.set_cons_succ, i64_w, i32_w]
    rfl
   exact norm_ (by (simp only [putAll, Act.put, List.setIfInBounds_toArray, List.set_cons_zero, List.set_cons_succ]; done)) (hCont (.slice At0 x0_3.length ct0, .slice At1 x1_3.length ct1, .slice At2 x2_0.length ct2, .slice At3 x3_0.length ct3, vw_, w54.heap.size) _ ⟨Rh.out, KA_.out, GA_.out, Kgb0.out, Kgb1.out, Kgw.out, Kgg.out, Rw.out, Rg.out, HB.out, HZh.out⟩)
  skip
  refine value_ (w1 := ?_) (v := ?_) (by rfl) rfl ?_ ?_
  rotate_left 2
  ·go_simp
   constructor
   ·rfl
   rfl
  replace HB := mk (below_alloc HB.out (.cells #[.int .i64 0, .int .i64 0, .int .i64 0, .slice none 0 0] 27))
  replace Kgb0 := mk (blk_alloc Kgb0.out (.cells #[.int .i64 0, .int .i64 0, .int .i64 0, .slice none 0 0] 27))
  replace Kgb1 := mk (blk_alloc Kgb1.out (.cells #[.int .i64 0, .int .i64 0, .int .i64 0, .slice none 0 0] 27))
  replace Kgw := mk (blk_alloc Kgw.out (.cells #[.int .i64 0, .int .i64 0, .int .i64 0, .slice none 0 0] 27))
  replace Kgg := mk (blk_alloc Kgg.out (.cells #[.int .i64 0, .int .i64 0, .int .i64 0, .slice none 0 0] 27))
  replace Rw := mk (Kd.R_alloc Rw.out (.cells #[.int .i64 0, .int .i64 0, .int .i64 0, .slice none 0 0] 27))
  replace Rg := mk (Kd.R_alloc Rg.out (.cells #[.int .i64 0, .int .i64 0, .int .i64 0, .slice none 0 0] 27))
  have KA_ := mk (blk_new w52.drew (.cells #[.int .i64 0, .int .i64 0, .int .i64 0, .slice none 0 0] 27 (0, 0)))
  have GA_ := HZh
  replace HZh := mk (Nat.le_trans HZh.out (below_alloc (Below.refl _ _) (.cells #[.int .i64 0, .int .i64 0, .int .i64 0, .slice none 0 0] 27)).size)
  refine hK.out _ _ ⟨((blk_cell Kgb0.out 0).trans rfl), ((blk_cell Kgb0.out 1).trans rfl), ((blk_cell Kgb0.out 2).trans rfl), ((blk_cell Kgb0.out 3).trans rfl), ((blk_cell Kgb1.out 0).trans rfl), ((blk_cell Kgb1.out 1).trans rfl), ((blk_cell Kgb1.out 2).trans rfl), ((blk_cell Kgb1.out 3).trans rfl)⟩ (fun hHeld => ?_)
  clear hK K
  refine norm_ (a' := ?_) ?_ ?_
  rotate_left
  ·show Act.put _ (some 21) _ = _
   simp only [Act.put, List.setIfInBounds_toArray, List.set_cons_zero, List.set_cons_succ, i64_w, i32_w]
   rfl
  refine one_ (i := 1) (N := some 136) #[true, true, true, false, true, false, true, false, false, false, false, false, true, false, false] rfl rfl (by kernel_rfl) (by decide) (fun K hK => ?_)
  refine goes_ Try.func22 (by kernel_rfl) rfl #[.agg #[.int .i64 a0_0, .int .i64 a0_1, .int .i64 a0_2, .slice A0_3 l0_3.length c0_3]] (by rfl) rfl rfl (by simp only [List.map_toArray, List.map_cons, List.map_nil]; rfl) ?_
  refine (laws_toImage.calls k a0_0 a0_1 a0_2 A0_3 c0_3 l0_3 x0_0 x0_1 x0_2 x0_3 _ (Kd.C_below HR0.out HB.out) HC0.out HT0.out).mono ?_
  rintro e w75 ⟨vt_, rfl, hr_, hb_⟩
  refine ⟨_, rfl, ?_⟩
  replace HB := mk (below_then HB.out HB.out.size hb_)
  replace Kgb0 := mk (blk_below Kgb0.out hb_)
  replace Kgb1 := mk (blk_below Kgb1.out hb_)
  replace Kgw := mk (blk_below Kgw.out hb_)
  replace Kgg := mk (blk_below Kgg.out hb_)
  replace Rw := mk (Kd.R_below Rw.out hb_)
  replace Rg := mk (Kd.R_below Rg.out hb_)
  replace KA_ := mk (blk_below KA_.out hb_)
  replace HZh := mk (Nat.le_trans HZh.out hb_.size)
  obtain ⟨At0, ct0, rfl, hl_, hC_⟩ := Kd.R_reads hr_
  have HT_0 := mk hC_
  have HL_0 := mk hl_
  clear hr_ hb_ hl_ hC_
  refine hK.out _ _ ⟨((blk_cell Kgb0.out 0).trans rfl), ((blk_cell Kgb0.out 1).trans rfl), ((blk_cell Kgb0.out 2).trans rfl), ((blk_cell Kgb0.out 3).trans rfl), ((blk_cell Kgb1.out 0).trans rfl), ((blk_cell Kgb1.out 1).trans rfl), ((blk_cell Kgb1.out 2).trans rfl), ((blk_cell Kgb1.out 3).trans rfl)⟩ (fun hHeld => ?_)
  clear hK K
  refine norm_ (a' := ?_) ?_ ?_
  rotate_left
  ·show Act.put _ (some 136) _ = _
   simp only [Act.put, List.setIfInBounds_toArray, List.set_cons_zero, List.set_cons_succ, i64_w, i32_w]
   rfl
  refine one_ (i := 3) (N := some 138) #[true, true, true, true, true, false, true, false, false, false, false, false, true, false, false] rfl rfl (by kernel_rfl) (by decide) (fun K hK => ?_)
  refine goes_ Try.func22 (by kernel_rfl) rfl #[.agg #[.int .i64 a1_0, .int .i64 a1_1, .int .i64 a1_2, .slice A1_3 l1_3.length c1_3]] (by rfl) rfl rfl (by simp only [List.map_toArray, List.map_cons, List.map_nil]; rfl) ?_
  with_reducible refine (laws_toImage.calls k a1_0 a1_1 a1_2 A1_3 c1_3 l1_3 x1_0 x1_1 x1_2 x1_3 _ (Kd.C_below HR1.out HB.out) HC1.out HT1.out).mono ?_
  rintro e w76 ⟨vt_, rfl, hr_, hb_⟩
  refine ⟨_, rfl, ?_⟩
  replace HB := mk (below_then HB.out HB.out.size hb_)
  replace Kgb0 := mk (blk_below Kgb0.out hb_)
  replace Kgb1 := mk (blk_below Kgb1.out hb_)
  replace Kgw := mk (blk_below Kgw.out hb_)
  replace Kgg := mk (blk_below Kgg.out hb_)
  replace Rw := mk (Kd.R_below Rw.out hb_)
  replace Rg := mk (Kd.R_below Rg.out hb_)
  replace HT_0 := mk (Kd.C_below HT_0.out hb_)
  replace KA_ := mk (blk_below KA_.out hb_)
  replace HZh := mk (Nat.le_trans HZh.out hb_.size)
  obtain ⟨At1, ct1, rfl, hl_, hC_⟩ := Kd.R_reads hr_
  have HT_1 := mk hC_
  have HL_1 := mk hl_
  clear hr_ hb_ hl_ hC_
  refine hK.out _ _ ⟨((blk_cell Kgb0.out 0).trans rfl), ((blk_cell Kgb0.out 1).trans rfl), ((blk_cell Kgb0.out 2).trans rfl), ((blk_cell Kgb0.out 3).trans rfl), ((blk_cell Kgb1.out 0).trans rfl), ((blk_cell Kgb1.out 1).trans rfl), ((blk_cell Kgb1.out 2).trans rfl), ((blk_cell Kgb1.out 3).trans rfl)⟩ (fun hHeld => ?_)
  clear hK K
  refine norm_ (a' := ?_) ?_ ?_
  rotate_left
  ·show Act.put _ (some 138) _ = _
   simp only [Act.put, List.setIfInBounds_toArray, List.set_cons_zero, List.set_cons_succ, i64_w, i32_w]
   rfl
  refine one_ (i := 5) (N := some 140) #[true, true, true, true, true, true, true, false, false, false, false, false, true, false, false] rfl rfl (by kernel_rfl) (by decide) (fun K hK => ?_)
  refine goes_ Try.func66 (by kernel_rfl) rfl #[.slice A2_0 l2_0.length c2_0] (by rfl) rfl rfl (by simp only [List.map_toArray, List.map_cons, List.map_nil]; rfl) ?_
  with_reducible refine (laws_toLayerS.calls k A2_0 c2_0 l2_0 x2_0 _ (Kd.C_below HR2.out HB.out) HC2.out HT2.out).mono ?_
  rintro e w77 ⟨vt_, rfl, hr_, hb_⟩
  refine ⟨_, rfl, ?_⟩
  replace HB := mk (below_then HB.out HB.out.size hb_)
  replace Kgb0 := mk (blk_below Kgb0.out hb_)
  replace Kgb1 := mk (blk_below Kgb1.out hb_)
  replace Kgw := mk (blk_below Kgw.out hb_)
  replace Kgg := mk (blk_below Kgg.out hb_)
  replace Rw := mk (Kd.R_below Rw.out hb_)
  replace Rg := mk (Kd.R_below Rg.out hb_)
  replace HT_0 := mk (Kd.C_below HT_0.out hb_)
  replace HT_1 := mk (Kd.C_below HT_1.out hb_)
  replace KA_ := mk (blk_below KA_.out hb_)
  replace HZh := mk (Nat.le_trans HZh.out hb_.size)
  obtain ⟨At2, ct2, rfl, hl_, hC_⟩ := Kd.S_reads hr_
  have HT_2 := mk hC_
  have HL_2 := mk hl_
  clear hr_ hb_ hl_ hC_
  refine hK.out _ _ ⟨((blk_cell Kgb0.out 0).trans rfl), ((blk_cell Kgb0.out 1).trans rfl), ((blk_cell Kgb0.out 2).trans rfl), ((blk_cell Kgb0.out 3).trans rfl), ((blk_cell Kgb1.out 0).trans rfl), ((blk_cell Kgb1.out 1).trans rfl), ((blk_cell Kgb1.out 2).trans rfl), ((blk_cell Kgb1.out 3).trans rfl)⟩ (fun hHeld => ?_)
  clear hK K
  refine norm_ (a' := ?_) ?_ ?_
  rotate_left
  ·show Act.put _ (some 140) _ = _
   simp only [Act.put, List.setIfInBounds_toArray, List.set_cons_zero, List.set_cons_succ, i64_w, i32_w]
   rfl
  refine one_ (i := 7) (N := some 142) #[true, true, true, true, true, true, true, true, false, false, false, false, true, false, false] rfl rfl (by kernel_rfl) (by decide) (fun K hK => ?_)
  refine goes_ Try.func77 (by kernel_rfl) rfl #[.slice A3_0 l3_0.length c3_0] (by rfl) rfl rfl (by simp only [List.map_toArray, List.map_cons, List.map_nil]; rfl) ?_
  with_reducible refine (laws_toIntS.calls k A3_0 c3_0 l3_0 x3_0 _ (Kd.C_below HR3.out HB.out) HC3.out HT3.out).mono ?_
  rintro e w78 ⟨vt_, rfl, hr_, hb_⟩
  refine ⟨_, rfl, ?_⟩
  replace HB := mk (below_then HB.out HB.out.size hb_)
  replace Kgb0 := mk (blk_below Kgb0.out hb_)
  replace Kgb1 := mk (blk_below Kgb1.out hb_)
  replace Kgw := mk (blk_below Kgw.out hb_)
  replace Kgg := mk (blk_below Kgg.out hb_)
  replace Rw := mk (Kd.R_below Rw.out hb_)
  replace Rg := mk (Kd.R_below Rg.out hb_)
  replace HT_0 := mk (Kd.C_below HT_0.out hb_)
  replace HT_1 := mk (Kd.C_below HT_1.out hb_)
  replace HT_2 := mk (Kd.C_below HT_2.out hb_)
  replace KA_ := mk (blk_below KA_.out hb_)
  replace HZh := mk (Nat.le_trans HZh.out hb_.size)
  obtain ⟨At3, ct3, rfl, hl_, hC_⟩ := Kd.R_reads hr_
  have HT_3 := mk hC_
  have HL_3 := mk hl_
  clear hr_ hb_ hl_ hC_
  refine hK.out _ _ ⟨((blk_cell Kgb0.out 0).trans rfl), ((blk_cell Kgb0.out 1).trans rfl), ((blk_cell Kgb0.out 2).trans rfl), ((blk_cell Kgb0.out 3).trans rfl), ((blk_cell Kgb1.out 0).trans rfl), ((blk_cell Kgb1.out 1).trans rfl), ((blk_cell Kgb1.out 2).trans rfl), ((blk_cell Kgb1.out 3).trans rfl)⟩ (fun hHeld => ?_)
  clear hK K
  refine norm_ (a' := ?_) ?_ ?_
  rotate_left
  ·show Act.put _ (some 142) _ = _
   simp only [Act.put, List.setIfInBounds_toArray, List.set_cons_zero, List.set_cons_succ, i64_w, i32_w]
   rfl
  refine one_ (i := 8) (N := some 143) #[true, true, true, true, true, true, true, true, true, false, false, false, true, false, false] rfl rfl (by kernel_rfl) (by decide) (fun K hK => ?_)
  refine goes_ Try.func78 (by kernel_rfl) rfl #[.agg #[.int .i64 x0_0, .int .i64 x0_1, .int .i64 x0_2, .slice At0 x0_3.length ct0], .agg #[.int .i64 x1_0, .int .i64 x1_1, .int .i64 x1_2, .slice At1 x1_3.length ct1], .slice At2 x2_0.length ct2, .slice At3 x3_0.length ct3] (by rfl) rfl rfl (by simp only [List.map_toArray, List.map_cons, List.map_nil]; rfl) ?_
  with_reducible refine (impl_RedrawTiles.calls k x0_0 x0_1 x0_2 At0 ct0 x0_3 x1_0 x1_1 x1_2 At1 ct1 x1_3 At2 ct2 x2_0 At3 ct3 x3_0 v0 v1 v2 v3 vok _ HT_0.out HL_0.out HT_1.out HL_1.out HT_2.out HL_2.out HT_3.out HL_3.out HIM.out).mono ?_
  rintro e w79 ⟨vw_, rfl, hr_, hb_⟩
  refine ⟨_, rfl, ?_⟩
  have HZp_ := HZh
  have HBp_ := HB
  replace HB := mk (below_then HB.out HB.out.size hb_)
  replace Kgb0 := mk (blk_below Kgb0.out hb_)
  replace Kgb1 := mk (blk_below Kgb1.out hb_)
  replace Kgw := mk (blk_below Kgw.out hb_)
  replace Kgg := mk (blk_below Kgg.out hb_)
  replace Rw := mk (Kd.R_below Rw.out hb_)
  replace Rg := mk (Kd.R_below Rg.out hb_)
  replace HT_0 := mk (Kd.C_below HT_0.out hb_)
  replace HT_1 := mk (Kd.C_below HT_1.out hb_)
  replace HT_2 := mk (Kd.C_below HT_2.out hb_)
  replace HT_3 := mk (Kd.C_below HT_3.out hb_)
  replace KA_ := mk (blk_below KA_.out hb_)
  replace HZh := mk (Nat.le_trans HZh.out hb_.size)
  have Rh := mk (Kd.R_lower (Kd.R_mono (Kd.R_bound hr_) (fun k_ hk_ => (⟨Nat.le_trans HZp_.out hk_.2.1, hk_.2.2.1⟩ : w52.heap.size ≤ k_ ∧ k_ < w79.heap.size))) HBp_.out.size)
  clear hr_ hb_ HZp_ HBp_
  refine hK.out _ _ ⟨((blk_cell Kgb0.out 0).trans rfl), ((blk_cell Kgb0.out 1).trans rfl), ((blk_cell Kgb0.out 2).trans rfl), ((blk_cell Kgb0.out 3).trans rfl), ((blk_cell Kgb1.out 0).trans rfl), ((blk_cell Kgb1.out 1).trans rfl), ((blk_cell Kgb1.out 2).trans rfl), ((blk_cell Kgb1.out 3).trans rfl)⟩ (fun hHeld => ?_)
  clear hK K
  refine norm_ (a' := ?_) ?_ ?_
  rotate_left
  ·show Act.put _ (some 143) _ = _
   simp only [Act.put, List.setIfInBounds_toArray, List.set_cons_zero, List.set_cons_succ, i64_w, i32_w]
   rfl
  refine pure_ (i := 9) (N := some 134) (v := ?_) (a' := ?_) #[true, true, true, true, true, true, true, true, true, true, false, false, true, false, false] rfl rfl (by kernel_rfl) (fun _ _ _ h => h) (Or.inl ⟨by rfl, ?_⟩) ?_ ?_
  rotate_left
  ·intro w'
   go_simp
   with_reducible rfl
  rotate_left
  ·simp only [Act.put, List.setIfInBounds_toArray, List.set_cons_zero, List.set_cons_succ, i64_w, i32_w]
   rfl
  refine pure_ (i := 10) (N := some 144) (v := ?_) (a' := ?_) #[true, true, true, true, true, true, true, true, true, true, true, false, true, false, false] rfl rfl (by kernel_rfl) (fun _ _ _ h => h) (Or.inl ⟨by rfl, ?_⟩) ?_ ?_
  rotate_left
  ·intro w'
   go_simp
   with_reducible rfl
  rotate_left
  ·simp only [Act.put, List.setIfInBounds_toArray, List.set_cons_zero, List.set_cons_succ, i64_w, i32_w]
   rfl
  refine pure_ (i := 11) (N := some 145) (v := ?_) (a' := ?_) #[true, true, true, true, true, true, true, true, true, true, true, true, true, false, false] rfl rfl (by kernel_rfl) (fun _ _ _ h => h) (Or.inl ⟨by rfl, ?_⟩) ?_ ?_
  rotate_left
  ·intro w'
   go_simp
   with_reducible rfl
  rotate_left
  ·simp only [Act.put, List.setIfInBounds_toArray, List.set_cons_zero, List.set_cons_succ, i64_w, i32_w]
   rfl
  exact norm_ (by (simp only [putAll, Act.put, List.setIfInBounds_toArray, List.set_cons_zero, List.set_cons_succ]; rfl)) (hCont (.slice At0 x0_3.length ct0, .slice At1 x1_3.length ct1, .slice At2 x2_0.length ct2, .slice At3 x3_0.length ct3, vw_, w52.drew.heap.size) _ ⟨Rh.out, KA_.out, GA_.out, Kgb0.out, Kgb1.out, Kgw.out, Kgg.out, Rw.out, Rg.out, HB.out, HZh.out⟩)
 rintro ⟨vt0_h, vt1_h, vt2_h, vt3_h, vvh, gh⟩ w53 ⟨hR_, hA_, hg_, hk_0, hk_1, hk_2, hk_3, hr_0, hr_1, hB_, hZ_⟩
 dsimp only at hR_ hA_ hg_
 obtain ⟨Ah, ch, ev_⟩ := Kd.R_slice hR_
 subst ev_
 have Rh := mk hR_
 have Kgh := mk hA_
 have Zgh := mk hg_
 have HB := mk hB_
 have HZh := mk hZ_
 have Kgb0 := mk hk_0
 have Kgb1 := mk hk_1
 have Kgw := mk hk_2
 have Kgg := mk hk_3
 have Rw := mk hr_0
 have Rg := mk hr_1
 clear hR_ hA_ hg_ hB_ hZ_ hk_0 hk_1 hk_2 hk_3 hr_0 hr_1
 have hHeld : w53.cell? ⟨gb0, 0, none⟩ = some (.int .i64 a0_0) ∧ w53.cell? ⟨gb0, 1, none⟩ = some (.int .i64 a0_1) ∧ w53.cell? ⟨gb0, 2, none⟩ = some (.int .i64 a0_2) ∧ w53.cell? ⟨gb0, 3, none⟩ = some (.slice A0_3 l0_3.length c0_3) ∧ w53.cell? ⟨gb1, 0, none⟩ = some (.int .i64 a1_0) ∧ w53.cell? ⟨gb1, 1, none⟩ = some (.int .i64 a1_1) ∧ w53.cell? ⟨gb1, 2, none⟩ = some (.int .i64 a1_2) ∧ w53.cell? ⟨gb1, 3, none⟩ = some (.slice A1_3 l1_3.length c1_3) := ⟨((blk_cell Kgb0.out 0).trans rfl), ((blk_cell Kgb0.out 1).trans rfl), ((blk_cell Kgb0.out 2).trans rfl), ((blk_cell Kgb0.out 3).trans rfl), ((blk_cell Kgb1.out 0).trans rfl), ((blk_cell Kgb1.out 1).trans rfl), ((blk_cell Kgb1.out 2).trans rfl), ((blk_cell Kgb1.out 3).trans rfl)⟩
 refine norm_ (a' := ?_) ?_ ?_
 rotate_left
 ·simp only [putAll, Act.put, List.setIfInBounds_toArray, List.set_cons_zero, List.set_cons_succ]
  rfl
 refine one_ (i := 13) (N := none) #[true, true, true, true, true, true, true, true, true, true, true, true, true, true, false] rfl rfl (by kernel_rfl) (by decide) (fun K hK => ?_)
 obtain ⟨-, -, -, -, qgh0, qgh1, qgh2, qgh3⟩ := c4 Kgh.out
 have cgh0 := (blk_cell Kgh.out 0).trans rfl
 have cgh1 := (blk_cell Kgh.out 1).trans rfl
 have cgh2 := (blk_cell Kgh.out 2).trans rfl
 have cgh3 := (blk_cell Kgh.out 3).trans rfl
 refine skip_ (w1 := ?_) (by rfl) rfl ?_ ?_
 rotate_left
 ·go_simp
  rfl
 clear qgh0 cgh0 qgh1 cgh1 qgh2 cgh2 qgh3 cgh3
 have Kgb0_ := mk (blk_far (p := ⟨gh, 3, none⟩) (blk_far (p := ⟨gh, 2, none⟩) (blk_far (p := ⟨gh, 1, none⟩) (blk_far (p := ⟨gh, 0, none⟩) Kgb0.out (show gb0 ≠ gh by have := Zgh.out; have := QKgb0.out; omega) (.int .i64 v0)) (show gb0 ≠ gh by have := Zgh.out; have := QKgb0.out; omega) (.int .i64 v1)) (show gb0 ≠ gh by have := Zgh.out; have := QKgb0.out; omega) (.int .i64 v2)) (show gb0 ≠ gh by have := Zgh.out; have := QKgb0.out; omega) (.slice Ah v3.length ch))
 have Kgb1_ := mk (blk_far (p := ⟨gh, 3, none⟩) (blk_far (p := ⟨gh, 2, none⟩) (blk_far (p := ⟨gh, 1, none⟩) (blk_far (p := ⟨gh, 0, none⟩) Kgb1.out (show gb1 ≠ gh by have := Zgh.out; have := QKgb1.out; omega) (.int .i64 v0)) (show gb1 ≠ gh by have := Zgh.out; have := QKgb1.out; omega) (.int .i64 v1)) (show gb1 ≠ gh by have := Zgh.out; have := QKgb1.out; omega) (.int .i64 v2)) (show gb1 ≠ gh by have := Zgh.out; have := QKgb1.out; omega) (.slice Ah v3.length ch))
 have Kgw_ := mk (blk_far (p := ⟨gh, 3, none⟩) (blk_far (p := ⟨gh, 2, none⟩) (blk_far (p := ⟨gh, 1, none⟩) (blk_far (p := ⟨gh, 0, none⟩) Kgw.out (show gw ≠ gh by have := Zgh.out; have := QKgw.out; omega) (.int .i64 v0)) (show gw ≠ gh by have := Zgh.out; have := QKgw.out; omega) (.int .i64 v1)) (show gw ≠ gh by have := Zgh.out; have := QKgw.out; omega) (.int .i64 v2)) (show gw ≠ gh by have := Zgh.out; have := QKgw.out; omega) (.slice Ah v3.length ch))
 have Kgg_ := mk (blk_far (p := ⟨gh, 3, none⟩) (blk_far (p := ⟨gh, 2, none⟩) (blk_far (p := ⟨gh, 1, none⟩) (blk_far (p := ⟨gh, 0, none⟩) Kgg.out (show gg ≠ gh by have := Zgh.out; have := QKgg.out; omega) (.int .i64 v0)) (show gg ≠ gh by have := Zgh.out; have := QKgg.out; omega) (.int .i64 v1)) (show gg ≠ gh by have := Zgh.out; have := QKgg.out; omega) (.int .i64 v2)) (show gg ≠ gh by have := Zgh.out; have := QKgg.out; omega) (.slice Ah v3.length ch))
 refine hK.out _ _ ⟨((blk_cell Kgb0_.out 0).trans rfl), ((blk_cell Kgb0_.out 1).trans rfl), ((blk_cell Kgb0_.out 2).trans rfl), ((blk_cell Kgb0_.out 3).trans rfl), ((blk_cell Kgb1_.out 0).trans rfl), ((blk_cell Kgb1_.out 1).trans rfl), ((blk_cell Kgb1_.out 2).trans rfl), ((blk_cell Kgb1_.out 3).trans rfl)⟩ (fun hHeld => ?_)
 clear hK K
 refine pure_ (i := 14) (N := some 22) (v := ?_) (a' := ?_) #[true, true, true, true, true, true, true, true, true, true, true, true, true, true, true] rfl rfl (by kernel_rfl) (fun _ _ _ h => h) (Or.inl ⟨by rfl, ?_⟩) ?_ ?_
 rotate_left
 ·intro w'
  go_simp
  with_reducible rfl
 rotate_left
 ·simp only [Act.put, List.setIfInBounds_toArray, List.set_cons_zero, List.set_cons_succ, i64_w, i32_w]
  rfl
 refine done_ (by kernel_rfl) ?_
 obtain ⟨w80, hw80⟩ : ∃ W, W = ((((w53.setCell ⟨gh, 0, none⟩ (.int .i64 v0)).setCell ⟨gh, 1, none⟩ (.int .i64 v1)).setCell ⟨gh, 2, none⟩ (.int .i64 v2)).setCell ⟨gh, 3, none⟩ (.slice Ah v3.length ch)) := ⟨_, rfl⟩
 rw [← hw80]
 have HGgh := mk (Nat.le_trans HB.out.size (Nat.le_refl _))
 replace HB := mk (show Below w.heap.size w w80 from by rw [hw80]; exact (below_set (below_set (below_set (below_set HB.out (Nat.le_trans HBSh.out Zgh.out)) (Nat.le_trans HBSh.out Zgh.out)) (Nat.le_trans HBSh.out Zgh.out)) (Nat.le_trans HBSh.out Zgh.out)))
 have NZh := mk (show w52.heap.size ≤ w80.heap.size from by rw [hw80]; exact Nat.le_trans HZh.out (by simp [World.setCell]))
 have ZLgh := mk (show gh < w80.heap.size from by rw [hw80]; exact Nat.lt_of_lt_of_le (blk_lt Kgh.out) (by simp [World.setCell]))
 replace Rh := mk (show Kd.R (Kd.int .i64) 3 w80 w.heap.size (fun k_ => w52.heap.size ≤ k_ ∧ k_ < w80.heap.size) (.slice Ah v3.length ch) v3 from by rw [hw80]; exact Kd.R_mono (Kd.R_far (Kd.R_far (Kd.R_far (Kd.R_far (Kd.R_types Rh.out Kgh.out (by decide)) (fun k hk => hk.2) _) (fun k hk => hk.2) _) (fun k hk => hk.2) _) (fun k hk => hk.2) _) (fun k hk => ⟨hk.1.1, Nat.lt_of_lt_of_le hk.1.2 (by simp [World.setCell])⟩))
 replace Rw := mk (show Kd.R (Kd.int .i64) 3 w80 w.heap.size (fun k_ => wz2.heap.size ≤ k_ ∧ k_ < w28.heap.size) (.slice Aw v3.length cw) v3 from by rw [hw80]; exact Kd.R_mono (Kd.R_far (Kd.R_far (Kd.R_far (Kd.R_far (Kd.R_types Rw.out Kgh.out (by decide)) (fun k hk => hk.2) _) (fun k hk => hk.2) _) (fun k hk => hk.2) _) (fun k hk => hk.2) _) (fun k hk => hk.1))
 replace Rg := mk (show Kd.R (Kd.int .i64) 3 w80 w.heap.size (fun k_ => 0 ≤ k_ ∧ k_ < w51.heap.size) (.slice Ag u.length cg) u from by rw [hw80]; exact Kd.R_mono (Kd.R_far (Kd.R_far (Kd.R_far (Kd.R_far (Kd.R_types Rg.out Kgh.out (by decide)) (fun k hk => hk.2) _) (fun k hk => hk.2) _) (fun k hk => hk.2) _) (fun k hk => hk.2) _) (fun k hk => hk.1))
 replace Kgb0 := mk (show w80.heap[gb0]? = some (.cells #[.int .i64 a0_0, .int .i64 a0_1, .int .i64 a0_2, .slice A0_3 l0_3.length c0_3] 24 (0, 0)) from by rw [hw80]; exact Kgb0_.out)
 replace Kgb1 := mk (show w80.heap[gb1]? = some (.cells #[.int .i64 a1_0, .int .i64 a1_1, .int .i64 a1_2, .slice A1_3 l1_3.length c1_3] 24 (0, 0)) from by rw [hw80]; exact Kgb1_.out)
 replace Kgw := mk (show w80.heap[gw]? = some (.cells #[.int .i64 v0, .int .i64 v1, .int .i64 v2, .slice Aw v3.length cw] 27 (0, 0)) from by rw [hw80]; exact Kgw_.out)
 replace Kgg := mk (show w80.heap[gg]? = some (.cells #[.int .i64 v0, .int .i64 v1, .int .i64 v2, .slice Ag u.length cg] 27 (0, 0)) from by rw [hw80]; exact Kgg_.out)
 replace Kgh := mk (show w80.heap[gh]? = some (.cells #[.int .i64 v0, .int .i64 v1, .int .i64 v2, .slice Ah v3.length ch] 27 (0, 0)) from by rw [hw80]; refine blk_put (cs := #[.int .i64 v0, .int .i64 v1, .int .i64 v2, .slice none 0 0]) ?_ 3 _ rfl; refine blk_put (cs := #[.int .i64 v0, .int .i64 v1, .int .i64 0, .slice none 0 0]) ?_ 2 _ rfl; refine blk_put (cs := #[.int .i64 v0, .int .i64 0, .int .i64 0, .slice none 0 0]) ?_ 1 _ rfl; refine blk_put (cs := #[.int .i64 0, .int .i64 0, .int .i64 0, .slice none 0 0]) ?_ 0 _ rfl; exact Kgh.out)
 clear hw80
 have cghw80_0 : w80.cell? ⟨gh, 0, none⟩ = some (.int .i64 v0) := (blk_cell Kgh.out 0).trans rfl; obtain ⟨-, cghw80_1, cghw80_2, cghw80_3, -⟩ := c4 Kgh.out
 have cgww80_0 : w80.cell? ⟨gw, 0, none⟩ = some (.int .i64 v0) := (blk_cell Kgw.out 0).trans rfl; obtain ⟨-, cgww80_1, cgww80_2, cgww80_3, -⟩ := c4 Kgw.out
 go_upto_region 47 with (first
  | (go_at_call 24; (with_reducible refine (laws_eqImage.calls k v0 v1 v2 Ah ch v3 v0 v1 v2 Aw cw v3 true w80 (Kd.R_reads' Rh.out).2.2 (Kd.R_reads' Rh.out).2.1 (Kd.R_reads' Rw.out).2.2 (Kd.R_reads' Rw.out).2.1 HEV.out rfl).mono ?_); rintro e w81 ⟨rfl, hb⟩; replace HB := mk (below_then HB.out HB.out.size hb); replace Kgb0 := mk (blk_below Kgb0.out hb); replace Kgb1 := mk (blk_below Kgb1.out hb); replace Kgw := mk (blk_below Kgw.out hb); replace Kgg := mk (blk_below Kgg.out hb); replace Kgh := mk (blk_below Kgh.out hb); replace Rw := mk (Kd.R_below Rw.out hb); replace Rg := mk (Kd.R_below Rg.out hb); replace Rh := mk (Kd.R_below Rh.out hb); have Zw81 := mk hb.size; clear hb))
 have cggw81_0 : w81.cell? ⟨gg, 0, none⟩ = some (.int .i64 v0) := (blk_cell Kgg.out 0).trans rfl; obtain ⟨-, cggw81_1, cggw81_2, cggw81_3, -⟩ := c4 Kgg.out
 go_wp2_with (first
  | (go_at_call 59; (with_reducible refine (laws_heldImage.calls k v0 v1 v2 Ag cg u 1 m w81 (Kd.R_reads' Rg.out).2.2 (Kd.R_reads' Rg.out).2.1 HHR.out).mono ?_); rintro e w82 ⟨rfl, hb⟩; replace HB := mk (below_then HB.out HB.out.size hb); replace Kgb0 := mk (blk_below Kgb0.out hb); replace Kgb1 := mk (blk_below Kgb1.out hb); replace Kgw := mk (blk_below Kgw.out hb); replace Kgg := mk (blk_below Kgg.out hb); replace Kgh := mk (blk_below Kgh.out hb); replace Rw := mk (Kd.R_below Rw.out hb); replace Rg := mk (Kd.R_below Rg.out hb); replace Rh := mk (Kd.R_below Rh.out hb); have Zw82 := mk hb.size; clear hb))
 go_ret
 exact ⟨rfl, HB.out⟩
theorem laws_FnExactRedrawTiles.calls (k : Nat) (a0_0 : Int) (a0_1 : Int) (a0_2 : Int) (A0_3 : Option Addr) (c0_3 : Nat) (l0_3 : List Int) (a1_0 : Int) (a1_1 : Int) (a1_2 : Int) (A1_3 : Option Addr) (c1_3 : Nat) (l1_3 : List Int) (A2_0 : Option Addr) (c2_0 : Nat) (l2_0 : List S51) (A3_0 : Option Addr) (c3_0 : Nat) (l3_0 : List Int) (r : Bool) (w : World) (hr0 : Kd.C (Kd.int .i64) w A0_3 l0_3.length l0_3) (hc0 : l0_3.length ≤ c0_3) (hr1 : Kd.C (Kd.int .i64) w A1_3 l1_3.length l1_3) (hc1 : l1_3.length ≤ c1_3) (hr2 : Kd.C k51 w A2_0 l2_0.length l2_0) (hc2 : l2_0.length ≤ c2_0) (hr3 : Kd.C (Kd.int .i64) w A3_0 l3_0.length l3_0) (hc3 : l3_0.length ≤ c3_0) (h : laws_FnExactRedrawTiles.f k a0_0 a0_1 a0_2 l0_3 a1_0 a1_1 a1_2 l1_3 l2_0 l3_0 = some r) : Calls Try.prog 17 #[.agg #[.int .i64 a0_0, .int .i64 a0_1, .int .i64 a0_2, .slice A0_3 l0_3.length c0_3], .agg #[.int .i64 a1_0, .int .i64 a1_1, .int .i64 a1_2, .slice A1_3 l1_3.length c1_3], .slice A2_0 l2_0.length c2_0, .slice A3_0 l3_0.length c3_0] w fun e w' => e = .returned (.bool r) ∧ Below w.heap.size w w' := by
 unfold laws_FnExactRedrawTiles.f at h
 by_cases hg : laws_FnExactRedrawTiles.Goes k a0_0 a0_1 a0_2 l0_3 a1_0 a1_1 a1_2 l1_3 l2_0 l3_0
 ·rw [if_pos hg] at h
  obtain rfl : true = r := Option.some.inj h
  clear h
  unfold laws_FnExactRedrawTiles.Goes at hg
  rcases hg with ⟨s0, hg3, hs0, hn0⟩ | ⟨s0, s1, hg3, hs0, hn0, hs1, hn1⟩ | ⟨s0, s1, s2, hg3, hs0, hn0, hs1, hn1, hs2, hn2⟩ | hg3 | ⟨s0, s1, s2, x0_0, x0_1, x0_2, x0_3, x1_0, x1_1, x1_2, x1_3, x2_0, x3_0, v0, v1, v2, v3, vok, k0, y0, k1, y1, k2, y2, k3, y3, m, u, HS0, HN0, HS1, HN1, HS2, HN2, HG3, HT0, HT1, HT2, HT3, HSP, HIM, HEV, HE0, HE1, HE2, HE3, HM0, HM1, HM2, HM3, HKN, HMR, HHR, HMN⟩
  ·exact laws_FnExactRedrawTiles.big0 k a0_0 a0_1 a0_2 A0_3 c0_3 l0_3 a1_0 a1_1 a1_2 A1_3 c1_3 l1_3 A2_0 c2_0 l2_0 A3_0 c3_0 l3_0 w hr0 hc0 hr1 hc1 hr2 hc2 hr3 hc3 s0 hg3 hs0 hn0
  ·exact laws_FnExactRedrawTiles.big1 k a0_0 a0_1 a0_2 A0_3 c0_3 l0_3 a1_0 a1_1 a1_2 A1_3 c1_3 l1_3 A2_0 c2_0 l2_0 A3_0 c3_0 l3_0 w hr0 hc0 hr1 hc1 hr2 hc2 hr3 hc3 s0 s1 hg3 hs0 hn0 hs1 hn1
  ·exact laws_FnExactRedrawTiles.big2 k a0_0 a0_1 a0_2 A0_3 c0_3 l0_3 a1_0 a1_1 a1_2 A1_3 c1_3 l1_3 A2_0 c2_0 l2_0 A3_0 c3_0 l3_0 w hr0 hc0 hr1 hc1 hr2 hc2 hr3 hc3 s0 s1 s2 hg3 hs0 hn0 hs1 hn1 hs2 hn2
  ·exact laws_FnExactRedrawTiles.long3 k a0_0 a0_1 a0_2 A0_3 c0_3 l0_3 a1_0 a1_1 a1_2 A1_3 c1_3 l1_3 A2_0 c2_0 l2_0 A3_0 c3_0 l3_0 w hr0 hc0 hr1 hc1 hr2 hc2 hr3 hc3 hg3
  exact laws_FnExactRedrawTiles.way k a0_0 a0_1 a0_2 A0_3 c0_3 l0_3 a1_0 a1_1 a1_2 A1_3 c1_3 l1_3 A2_0 c2_0 l2_0 A3_0 c3_0 l3_0 w hr0 hc0 hr1 hc1 hr2 hc2 hr3 hc3 s0 s1 s2 x0_0 x0_1 x0_2 x0_3 x1_0 x1_1 x1_2 x1_3 x2_0 x3_0 v0 v1 v2 v3 vok k0 y0 k1 y1 k2 y2 k3 y3 m u HS0 HN0 HS1 HN1 HS2 HN2 HG3 HT0 HT1 HT2 HT3 HSP HIM HEV HE0 HE1 HE2 HE3 HM0 HM1 HM2 HM3 HKN HMR HHR HMN
 rw [if_neg hg] at h; cases h
end Go.Proofs.Ytnofkbbcbpjhfaa.Q

/- What an argument's reading as data tells: numbers, bools, slices and structs of them, by their kinds. -/
namespace Go.Proofs.Ytnofkbbcbpjhfaa.Q
open Go.RowKit Go.Proofs.YtnofkbbcbpjhfaaW.PrintWords Go.Proofs.YtnofkbbcbpjhfaaW.PrintLast Go.Proofs.YtnofkbbcbpjhfaaW.PrintMore
attribute [local go_sem] max2_int min2_int max_two min_two max_three min_three max_four min_four
set_option linter.unusedVariables false
set_option linter.unusedSimpArgs false
open Go.ChangeShapes Go.WideShapes Go.Deep

/-- A number of 64 bits. -/
def I64 (n : Int) : Prop := -9223372036854775808 ≤ n ∧ n ≤ 9223372036854775807
theorem i64_of (n : Int) (h : (Lit.int .i64 n).wf = true) : I64 n := by
  simp only [Lit.wf, Bool.and_eq_true, decide_eq_true_eq] at h
  have e1 : IntKind.min .i64 = -9223372036854775808 := by decide
  have e2 : IntKind.max .i64 = 9223372036854775807 := by decide
  unfold I64
  omega
/-- Whatever reads at type t as data is a y of this kind, of which Q holds. -/
def Opens {α : Type} (P : Program) (t : TypeId) (d : Kd α) (Q : α → Prop) : Prop :=
  ∀ (H : Type) (enc : TypeId × Value → H) (w : World) (fuel : Nat) (cs : List Value) (x : DataW H × List MemPlace),
    DataW.trod enc P w 0 (fun _ => true) true fuel t cs = some x → ∃ y : α, d.K w y cs ∧ Q y
section
variable {P : Program} {t : TypeId} {α β : Type}
theorem opens_i64 (ht : P.underlying t = some (.int .i64)) : Opens P t (Kd.int .i64) I64 := by
  intro H enc w fuel cs x h
  obtain ⟨n, rfl, _, hw⟩ := DataW.trod_int ht h
  exact ⟨n, rfl, i64_of n hw⟩
theorem opens_bool (ht : P.underlying t = some .bool) : Opens P t Kd.bool (fun _ => True) := by
  intro H enc w fuel cs x h
  obtain ⟨b, rfl, _⟩ := DataW.trod_bool ht h
  exact ⟨b, rfl, trivial⟩
theorem opens_sliceB {e : TypeId} {d : Kd α} {Q : α → Prop} (ht : P.underlying t = some (.slice e)) (hc : P.cellsOf e = d.sz) (ho : Opens P e d Q) :
    Opens P t (Kd.slice e d) (fun l => (∀ x ∈ l, Q x) ∧ l.length ≤ 9223372036854775807) := by
  intro H enc w fuel cs x h
  rcases open_slice ht h with ⟨rfl, _⟩ | ⟨a, len, cap, m, n, D, Pl, rfl, _, hl, hm, hmm, _, hi⟩
  · exact ⟨[], ⟨none, 0, rfl, Nat.le_refl _, rfl, by simp, fun h0 => absurd h0 (by simp)⟩, ⟨fun x hx => absurd hx (by simp), by simp⟩⟩
  · have hmc : m = cap := by simpa using hmm
    subst hmc
    have each : ∀ i, i < len → ∃ y : α, (∃ c, c.length = d.sz ∧ d.K w y c ∧ ∀ j u, c[j]? = some u → w.cell? (a.add (i * d.sz + j)) = some u) ∧ Q y := by
      intro i hil
      obtain ⟨cs', hcs, htr⟩ := hi i (by omega)
      rw [hc] at hcs
      obtain ⟨_, hcl, hat⟩ := World.cells?_some hcs
      obtain ⟨y, hK, hQ⟩ := ho H enc w n cs' _ htr
      refine ⟨y, ⟨cs', hcl, hK, fun j u hu => ?_⟩, hQ⟩
      have hj : j < d.sz := by rw [← hcl]; exact (List.getElem?_eq_some_iff.1 hu).1
      rw [← Go.Deep.add_add, hat j hj, hu]
    have hY : ∃ ys : List α, ys.length = len ∧ ∀ i, i < len → ∃ y, ys[i]? = some y ∧ (∃ c, c.length = d.sz ∧ d.K w y c ∧ ∀ j u, c[j]? = some u → w.cell? (a.add (i * d.sz + j)) = some u) ∧ Q y := by
      have key : ∀ q, q ≤ len → ∃ ys : List α, ys.length = q ∧ ∀ i, i < q → ∃ y, ys[i]? = some y ∧ (∃ c, c.length = d.sz ∧ d.K w y c ∧ ∀ j u, c[j]? = some u → w.cell? (a.add (i * d.sz + j)) = some u) ∧ Q y := by
        intro q
        induction q with
        | zero => intro _; exact ⟨[], rfl, fun i hi' => absurd hi' (by omega)⟩
        | succ q ih =>
          intro hq
          obtain ⟨ys, hyl, hys⟩ := ih (by omega)
          obtain ⟨y, hy⟩ := each q (by omega)
          refine ⟨ys ++ [y], by simp [hyl], fun i hi' => ?_⟩
          by_cases e : i = q
          · subst e
            exact ⟨y, by rw [List.getElem?_append_right (by omega)]; simp [hyl], hy⟩
          · obtain ⟨z, hz, hz2⟩ := hys i (by omega)
            exact ⟨z, by rw [List.getElem?_append_left (by omega)]; exact hz, hz2⟩
      exact key len (Nat.le_refl _)
    obtain ⟨ys, hyl, hys⟩ := hY
    refine ⟨ys, ⟨some a, m, by rw [hyl], by omega, rfl, by rw [hyl]; simp only [maxLen] at hm; omega, fun _ => ⟨a, rfl, fun j p hj => ?_⟩⟩, ⟨fun x hx => ?_, by rw [hyl]; simp only [maxLen] at hm; omega⟩⟩
    · have hjl : j < len := by rw [← hyl]; exact (List.getElem?_eq_some_iff.1 hj).1
      obtain ⟨y, hy, hc2, _⟩ := hys j hjl
      rw [hy] at hj
      obtain rfl := Option.some.inj hj
      exact hc2
    · obtain ⟨j, hj, rfl⟩ := List.getElem_of_mem hx
      obtain ⟨y, hy, _, hq⟩ := hys j (by omega)
      rw [List.getElem?_eq_getElem hj] at hy
      obtain rfl := Option.some.inj hy
      exact hq
theorem opens_slice {e : TypeId} {d : Kd α} {Q : α → Prop} (ht : P.underlying t = some (.slice e)) (hc : P.cellsOf e = d.sz) (ho : Opens P e d Q) :
    Opens P t (Kd.slice e d) (fun l => ∀ x ∈ l, Q x) := by
  intro H enc w fuel cs x h
  obtain ⟨y, h1, h2, _⟩ := opens_sliceB ht hc ho H enc w fuel cs x h
  exact ⟨y, h1, h2⟩
/-- Fields in line, from the cell 'off' on. -/
def OpensF (P : Program) (fs : List Field) (off : Nat) (d : Kd α) (Q : α → Prop) : Prop :=
  ∀ (H : Type) (enc : TypeId × Value → H) (w : World) (n : Nat) (cs : List Value), cs.length = off + d.sz →
    (∀ f ∈ fs, ∃ x, DataW.trod enc P w 0 (fun _ => true) true n f.type ((cs.drop f.offset).take (P.cellsOf f.type)) = some x) → ∃ y : α, d.K w y (cs.drop off) ∧ Q y
theorem opensF_one {f : Field} {off : Nat} {d : Kd α} {Q : α → Prop} (ho : f.offset = off) (hc : P.cellsOf f.type = d.sz) (h : Opens P f.type d Q) : OpensF P [f] off d Q := by
  intro H enc w n cs hl hf
  obtain ⟨x, hx⟩ := hf f (by simp)
  rw [ho, hc, List.take_of_length_le (by rw [List.length_drop]; omega)] at hx
  exact h H enc w n _ _ hx
theorem opensF_cons {f : Field} {fs : List Field} {off : Nat} {d : Kd α} {Q : α → Prop} {d' : Kd β} {Q' : β → Prop} (ho : f.offset = off) (hc : P.cellsOf f.type = d.sz) (h : Opens P f.type d Q) (h' : OpensF P fs (off + d.sz) d' Q') :
    OpensF P (f :: fs) off (Kd.pair d d') (fun p => Q p.1 ∧ Q' p.2) := by
  intro H enc w n cs hl hf
  have hl' : cs.length = off + (d.sz + d'.sz) := hl
  obtain ⟨x, hx⟩ := hf f (by simp)
  rw [ho, hc] at hx
  obtain ⟨y, hK, hQ⟩ := h H enc w n _ _ hx
  obtain ⟨y', hK', hQ'⟩ := h' H enc w n cs (by omega) (fun g hg => hf g (by simp [hg]))
  refine ⟨(y, y'), ⟨(cs.drop off).take d.sz, cs.drop (off + d.sz), ?_, hK, hK'⟩, hQ, hQ'⟩
  rw [← List.drop_drop, List.take_append_drop]
theorem opens_struct {fs : Array Field} {d : Kd α} {Q : α → Prop} (ht : P.underlying t = some (.struct fs)) (hc : P.cellsOf t = d.sz) (h : OpensF P fs.toList 0 d Q) : Opens P t d Q := by
  intro H enc w fuel cs x hx
  obtain ⟨xs, n, _, _, hcl, hxl, hg⟩ := DataW.trod_struct ht hx
  obtain ⟨y, hK, hQ⟩ := h H enc w n cs (by omega) (fun f hf => by
    obtain ⟨i, hi, rfl⟩ := List.getElem_of_mem hf
    have hi' : i < fs.size := by simpa using hi
    have h1 := hg i (fs.toList[i]) (by simp [hi'])
    rw [List.getElem?_eq_getElem (by omega)] at h1
    exact ⟨_, h1⟩)
  exact ⟨y, by simpa using hK, hQ⟩
theorem opens_iso {d : Kd α} {Q : α → Prop} (f : β → α) (g : α → β) (hfg : ∀ a, f (g a) = a) (h : Opens P t d Q) : Opens P t (Kd.iso d f) (fun b => Q (f b)) := by
  intro H enc w fuel cs x hx
  obtain ⟨y, hK, hQ⟩ := h H enc w fuel cs x hx
  refine ⟨g y, ?_, ?_⟩
  · show d.K w (f (g y)) cs
    rw [hfg]; exact hK
  · show Q (f (g y))
    rw [hfg]; exact hQ
end
end Go.Proofs.Ytnofkbbcbpjhfaa.Q

/- What is known of structs that came in. -/
namespace Go.Proofs.Ytnofkbbcbpjhfaa.Q
open Go.RowKit Go.Proofs.YtnofkbbcbpjhfaaW.PrintWords Go.Proofs.YtnofkbbcbpjhfaaW.PrintLast Go.Proofs.YtnofkbbcbpjhfaaW.PrintMore
attribute [local go_sem] max2_int min2_int max_two min_two max_three min_three max_four min_four
set_option linter.unusedVariables false
set_option linter.unusedSimpArgs false
def wf24 (x : S24) : Prop := I64 x.f0 ∧ I64 x.f1 ∧ I64 x.f2 ∧ (∀ y ∈ x.f3, I64 y)
theorem o24 : Opens Try.prog 24 k24 wf24 :=
  opens_iso (fun x : S24 => (x.f0, x.f1, x.f2, x.f3)) (fun p => (⟨p.1, p.2.1, p.2.2.1, p.2.2.2⟩ : S24)) (fun _ => rfl) (opens_struct Try.underlying24 (by kernel_rfl) (opensF_cons rfl (by kernel_rfl) (opens_i64 Try.underlying3) (opensF_cons rfl (by kernel_rfl) (opens_i64 Try.underlying3) (opensF_cons rfl (by kernel_rfl) (opens_i64 Try.underlying3) (opensF_one rfl (by kernel_rfl) (opens_slice Try.underlying22 (by kernel_rfl) (opens_i64 Try.underlying3)))))))
def wf51 (x : S51) : Prop := wf24 x.f0 ∧ I64 x.f1 ∧ I64 x.f2 ∧ I64 x.f3 ∧ I64 x.f4 ∧ True
theorem o51 : Opens Try.prog 51 k51 wf51 :=
  opens_iso (fun x : S51 => (x.f0, x.f1, x.f2, x.f3, x.f4, x.f5)) (fun p => (⟨p.1, p.2.1, p.2.2.1, p.2.2.2.1, p.2.2.2.2.1, p.2.2.2.2.2⟩ : S51)) (fun _ => rfl) (opens_struct Try.underlying51 (by kernel_rfl) (opensF_cons rfl (by kernel_rfl) o24 (opensF_cons rfl (by kernel_rfl) (opens_i64 Try.underlying3) (opensF_cons rfl (by kernel_rfl) (opens_i64 Try.underlying3) (opensF_cons rfl (by kernel_rfl) (opens_i64 Try.underlying3) (opensF_cons rfl (by kernel_rfl) (opens_i64 Try.underlying3) (opensF_one rfl (by kernel_rfl) (opens_bool Try.underlying4))))))))
def wg24 (x : S24) : Prop := I64 x.f0 ∧ I64 x.f1 ∧ I64 x.f2 ∧ ((∀ y ∈ x.f3, I64 y) ∧ x.f3.length ≤ 9223372036854775807)
theorem og24 : Opens Try.prog 24 k24 wg24 :=
  opens_iso (fun x : S24 => (x.f0, x.f1, x.f2, x.f3)) (fun p => (⟨p.1, p.2.1, p.2.2.1, p.2.2.2⟩ : S24)) (fun _ => rfl) (opens_struct Try.underlying24 (by kernel_rfl) (opensF_cons rfl (by kernel_rfl) (opens_i64 Try.underlying3) (opensF_cons rfl (by kernel_rfl) (opens_i64 Try.underlying3) (opensF_cons rfl (by kernel_rfl) (opens_i64 Try.underlying3) (opensF_one rfl (by kernel_rfl) (opens_sliceB Try.underlying22 (by kernel_rfl) (opens_i64 Try.underlying3)))))))
def wg51 (x : S51) : Prop := wg24 x.f0 ∧ I64 x.f1 ∧ I64 x.f2 ∧ I64 x.f3 ∧ I64 x.f4 ∧ True
theorem og51 : Opens Try.prog 51 k51 wg51 :=
  opens_iso (fun x : S51 => (x.f0, x.f1, x.f2, x.f3, x.f4, x.f5)) (fun p => (⟨p.1, p.2.1, p.2.2.1, p.2.2.2.1, p.2.2.2.2.1, p.2.2.2.2.2⟩ : S51)) (fun _ => rfl) (opens_struct Try.underlying51 (by kernel_rfl) (opensF_cons rfl (by kernel_rfl) og24 (opensF_cons rfl (by kernel_rfl) (opens_i64 Try.underlying3) (opensF_cons rfl (by kernel_rfl) (opens_i64 Try.underlying3) (opensF_cons rfl (by kernel_rfl) (opens_i64 Try.underlying3) (opensF_cons rfl (by kernel_rfl) (opens_i64 Try.underlying3) (opensF_one rfl (by kernel_rfl) (opens_bool Try.underlying4))))))))
def wf137 (x : S137) : Prop := I64 x.f0 ∧ I64 x.f1 ∧ I64 x.f2 ∧ I64 x.f3
theorem o137 : Opens Try.prog 137 k137 wf137 :=
  opens_iso (fun x : S137 => (x.f0, x.f1, x.f2, x.f3)) (fun p => (⟨p.1, p.2.1, p.2.2.1, p.2.2.2⟩ : S137)) (fun _ => rfl) (opens_struct Try.underlying137 (by kernel_rfl) (opensF_cons rfl (by kernel_rfl) (opens_i64 Try.underlying3) (opensF_cons rfl (by kernel_rfl) (opens_i64 Try.underlying3) (opensF_cons rfl (by kernel_rfl) (opens_i64 Try.underlying3) (opensF_one rfl (by kernel_rfl) (opens_i64 Try.underlying3))))))

/- The statement over plain lists and numbers that is left of the law FnExactRedrawTiles. -/
def laws_FnExactRedrawTiles.Pure : Prop := ∀ (a0_0 : Int) (a0_1 : Int) (a0_2 : Int) (l0_3 : List Int) (a1_0 : Int) (a1_1 : Int) (a1_2 : Int) (l1_3 : List Int) (l2 : List (S51)) (l3 : List Int), I64 a0_0 → I64 a0_1 → I64 a0_2 → (∀ y ∈ l0_3, I64 y) → l0_3.length ≤ 9223372036854775807 → I64 a1_0 → I64 a1_1 → I64 a1_2 → (∀ y ∈ l1_3, I64 y) → l1_3.length ≤ 9223372036854775807 → (∀ y ∈ l2, wg51 y) → l2.length ≤ 9223372036854775807 → (∀ y ∈ l3, I64 y) → l3.length ≤ 9223372036854775807 → ∃ k, laws_FnExactRedrawTiles.f k a0_0 a0_1 a0_2 l0_3 a1_0 a1_1 a1_2 l1_3 l2 l3 = some true
end Go.Proofs.Ytnofkbbcbpjhfaa.Q

/- Images as pixels: lists of numbers cut into equal parts. -/
namespace Go.Proofs.Ytnofkbbcbpjhfaa.Pure
open Go.RowKit Go.Proofs.Ytnofkbbcbpjhfaa.Q Go.Proofs.YtnofkbbcbpjhfaaW.PrintWords Go.Proofs.YtnofkbbcbpjhfaaW.PrintLast Go.Proofs.YtnofkbbcbpjhfaaW.PrintMore
set_option linter.unusedVariables false
set_option linter.unusedSimpArgs false

def nx (n : Nat) (d : List Int) (i : Nat) : List Int := (d.drop (i * n)).take n
theorem nx_length {n m : Nat} {d : List Int} (hd : d.length = m * n) {i : Nat} (hi : i < m) : (nx n d i).length = n := by
 unfold nx
 have h : (i + 1) * n ≤ m * n := Nat.mul_le_mul_right n hi
 rw [Nat.add_mul, Nat.one_mul] at h
 rw [List.length_take, List.length_drop, hd]
 omega
theorem fm_length (f : Nat → List Int) (n : Nat) : ∀ m, (∀ i, i < m → (f i).length = n) → ((List.range m).flatMap f).length = m * n := by
 intro m
 induction m with
 | zero => intro _; simp
 | succ m ih =>
  intro h
  rw [List.range_succ, List.flatMap_append, List.length_append, ih (fun i hi => h i (by omega))]
  simp [h m (by omega), Nat.add_mul]
theorem fm_get (f : Nat → List Int) (n : Nat) : ∀ m, (∀ i, i < m → (f i).length = n) → ∀ i, i < m → nx n ((List.range m).flatMap f) i = f i := by
 intro m
 induction m with
 | zero => intro _ i hi; omega
 | succ m ih =>
  intro h i hi
  have hl := fm_length f n m (fun i hi => h i (by omega))
  rw [List.range_succ, List.flatMap_append]
  unfold nx
  by_cases c : i < m
  ·have h1 : (i + 1) * n ≤ m * n := Nat.mul_le_mul_right n c
   rw [Nat.add_mul, Nat.one_mul] at h1
   rw [List.drop_append_of_le_length (by omega), List.take_append_of_le_length (by rw [List.length_drop]; omega)]
   exact ih (fun i hi => h i (by omega)) i c
  ·have : i = m := by omega
   subst this
   rw [← hl, List.drop_left]
   simp only [List.flatMap_cons, List.flatMap_nil, List.append_nil]
   exact List.take_of_length_le (by rw [h i (by omega)]; exact Nat.le_refl _)
theorem fm_cut (n : Nat) : ∀ (m : Nat) (d : List Int), d.length = m * n → (List.range m).flatMap (nx n d) = d := by
 intro m
 induction m with
 | zero => intro d hd; simp at hd; simp [hd]
 | succ m ih =>
  intro d hd
  rw [Nat.add_mul, Nat.one_mul] at hd
  have h1 : (List.range m).flatMap (nx n d) = (List.range m).flatMap (nx n (d.take (m * n))) := by
   rw [List.flatMap_def, List.flatMap_def]
   congr 1
   refine List.map_congr_left (fun i hi => ?_)
   have hi' := List.mem_range.1 hi
   have h1 : (i + 1) * n ≤ m * n := Nat.mul_le_mul_right n hi'
   rw [Nat.add_mul, Nat.one_mul] at h1
   unfold nx
   rw [List.drop_take, List.take_take, Nat.min_eq_left (by omega)]
  rw [List.range_succ, List.flatMap_append, h1, ih _ (by rw [List.length_take]; omega)]
  simp only [List.flatMap_cons, List.flatMap_nil, List.append_nil]
  unfold nx
  rw [List.take_of_length_le (l := d.drop (m * n)) (by rw [List.length_drop]; omega), List.take_append_drop]
theorem ext_nx {n m : Nat} {d e : List Int} (hd : d.length = m * n) (he : e.length = m * n) (h : ∀ i, i < m → nx n d i = nx n e i) : d = e := by
 rw [← fm_cut n m d hd, ← fm_cut n m e he, List.flatMap_def, List.flatMap_def]
 congr 1
 exact List.map_congr_left (fun i hi => h i (List.mem_range.1 hi))
theorem imgD_congr {f g : Nat → Nat → List Int} {a b : Nat} (h : ∀ x y, x < a → y < b → f x y = g x y) : imgD f a b = imgD g a b := by
 unfold imgD rowD
 rw [List.flatMap_def, List.flatMap_def]
 congr 1
 refine List.map_congr_left (fun y hy => ?_)
 rw [List.flatMap_def, List.flatMap_def]
 congr 1
 exact List.map_congr_left (fun x hx => h x y (List.mem_range.1 hx) (List.mem_range.1 hy))
theorem rowD_length {px : Nat → Nat → List Int} {a n y : Nat} (h : ∀ x, x < a → (px x y).length = n) : (rowD px a y).length = a * n := fm_length _ n a h
theorem imgD_length {px : Nat → Nat → List Int} {a b n : Nat} (h : ∀ x y, x < a → y < b → (px x y).length = n) : (imgD px a b).length = (b * a) * n := by
 rw [Nat.mul_assoc]
 exact fm_length _ (a * n) b (fun y hy => rowD_length (fun x hx => h x y hx hy))
theorem nx_imgD {px : Nat → Nat → List Int} {a b n : Nat} (h : ∀ x y, x < a → y < b → (px x y).length = n) {x y : Nat} (hx : x < a) (hy : y < b) : nx n (imgD px a b) (y * a + x) = px x y := by
 have h1 := fm_get (rowD px a) (a * n) b (fun y hy => rowD_length (fun x hx => h x y hx hy)) y hy
 have h2 := fm_get (fun x => px x y) n a (fun x hx => h x y hx hy) x hx
 have h3 : (x + 1) * n ≤ a * n := Nat.mul_le_mul_right n hx
 rw [Nat.add_mul, Nat.one_mul] at h3
 show nx n ((List.range b).flatMap (rowD px a)) (y * a + x) = px x y
 rw [← h2]
 show _ = nx n (rowD px a y) x
 rw [← h1]
 unfold nx
 rw [List.drop_take, List.take_take, Nat.min_eq_left (by omega), List.drop_drop, Nat.add_mul, Nat.mul_assoc]
theorem lin_lt {a b x y : Nat} (hx : x < a) (hy : y < b) : y * a + x < b * a := by
 have : (y + 1) * a ≤ b * a := Nat.mul_le_mul_right a hy
 rw [Nat.add_mul, Nat.one_mul] at this
 omega
theorem lin_ne {a x y x' y' : Nat} (hx : x < a) (hx' : x' < a) (h : y * a + x = y' * a + x') : x = x' ∧ y = y' := by
 have ha : 0 < a := by omega
 have e1 := congrArg (· % a) h
 have e2 := congrArg (· / a) h
 simp only [Nat.mul_comm _ a, Nat.mul_add_mod, Nat.mul_add_div ha, Nat.mod_eq_of_lt hx, Nat.mod_eq_of_lt hx', Nat.div_eq_of_lt hx, Nat.div_eq_of_lt hx', Nat.add_zero] at e1 e2
 exact ⟨e1, e2⟩
theorem lin_of {a b i : Nat} (h : i < b * a) : i % a < a ∧ i / a < b ∧ (i / a) * a + i % a = i := by
 have ha : 0 < a := by
  rcases Nat.eq_zero_or_pos a with rfl | h'
  ·simp at h
  ·exact h'
 refine ⟨Nat.mod_lt _ ha, (Nat.div_lt_iff_lt_mul ha).2 h, ?_⟩
 rw [Nat.mul_comm]; exact Nat.div_add_mod i a
theorem ext_img {n a b : Nat} {d e : List Int} (hd : d.length = (b * a) * n) (he : e.length = (b * a) * n) (h : ∀ x y, x < a → y < b → nx n d (y * a + x) = nx n e (y * a + x)) : d = e := by
 refine ext_nx hd he (fun i hi => ?_)
 obtain ⟨h1, h2, h3⟩ := lin_of hi
 rw [← h3]
 exact h _ _ h1 h2
theorem nx_laid {n m : Nat} {d ys : List Int} (hd : d.length = m * n) (hy : ys.length = n) {j : Nat} (hj : j < m) {i : Nat} (hi : i < m) : nx n (laidOver d (j * n) ys) i = if i = j then ys else nx n d i := by
 have hj1 : (j + 1) * n ≤ m * n := Nat.mul_le_mul_right n hj
 have hi1 : (i + 1) * n ≤ m * n := Nat.mul_le_mul_right n hi
 rw [Nat.add_mul, Nat.one_mul] at hj1 hi1
 unfold nx laidOver
 have hlt : (d.take (j * n)).length = j * n := by rw [List.length_take]; omega
 by_cases c : i = j
 ·subst c
  rw [if_pos rfl]
  have e1 : (d.take (i * n) ++ (ys ++ d.drop (i * n + ys.length))).drop (i * n) = ys ++ d.drop (i * n + ys.length) := by
   rw [List.drop_append, List.drop_eq_nil_of_le (by omega), hlt, Nat.sub_self, List.drop_zero, List.nil_append]
  rw [e1, ← hy, List.take_left]
 ·rw [if_neg c]
  by_cases c2 : i < j
  ·have h1 : (i + 1) * n ≤ j * n := Nat.mul_le_mul_right n c2
   rw [Nat.add_mul, Nat.one_mul] at h1
   rw [List.drop_append_of_le_length (by omega), List.take_append_of_le_length (by rw [List.length_drop]; omega), List.drop_take, List.take_take, Nat.min_eq_left (by omega)]
  ·have h1 : (j + 1) * n ≤ i * n := Nat.mul_le_mul_right n (by omega)
   rw [Nat.add_mul, Nat.one_mul] at h1
   rw [← List.append_assoc, List.drop_append, List.drop_eq_nil_of_le (by rw [List.length_append, hlt, hy]; omega), List.nil_append, List.drop_drop, List.length_append, hlt, hy]
   congr 2
   omega
theorem nat_of {a b p : Int} {d : List Int} (hv : validI a b p d = true) : ∃ an bn pn : Nat, a = an ∧ b = bn ∧ p = pn ∧ 1 ≤ an ∧ an ≤ 16 ∧ 1 ≤ bn ∧ bn ≤ 16 ∧ 1 ≤ pn ∧ pn ≤ 4 ∧ d.length = (bn * an) * pn := by
 obtain ⟨hs, hl, _⟩ := (validI_iff a b p d).1 hv
 obtain ⟨an, rfl⟩ := Int.eq_ofNat_of_zero_le (show 0 ≤ a by omega)
 obtain ⟨bn, rfl⟩ := Int.eq_ofNat_of_zero_le (show 0 ≤ b by omega)
 obtain ⟨pn, rfl⟩ := Int.eq_ofNat_of_zero_le (show 0 ≤ p by omega)
 refine ⟨an, bn, pn, rfl, rfl, rfl, by omega, by omega, by omega, by omega, by omega, by omega, ?_⟩
 have : (d.length : Int) = ((an * bn * pn : Nat) : Int) := by rw [hl]; push_cast; rfl
 rw [Nat.mul_comm bn an]
 exact Int.ofNat.inj this
theorem small {an bn pn : Nat} (h1 : an ≤ 16) (h2 : bn ≤ 16) (h3 : pn ≤ 4) : (bn * an) * pn ≤ 1024 := by
 have := Nat.mul_le_mul (Nat.mul_le_mul h2 h1) h3
 omega
theorem pixJ_nat {an bn pn x y : Nat} (h1 : an ≤ 16) (h2 : bn ≤ 16) (h3 : pn ≤ 4) (hx : x < an) (hy : y < bn) : pixJ an pn x y = (((y * an + x) * pn : Nat) : Int) ∧ (y * an + x) * pn + pn ≤ (bn * an) * pn := by
 have hl := lin_lt hx hy
 have hm : (y * an + x + 1) * pn ≤ (bn * an) * pn := Nat.mul_le_mul_right pn hl
 rw [Nat.add_mul, Nat.one_mul] at hm
 have hs := small h1 h2 h3
 have hya : y * an ≤ 16 * 16 := Nat.mul_le_mul (by omega) (by omega)
 refine ⟨?_, hm⟩
 unfold pixJ
 have e1 : ((y : Int) * (an : Int)) = ((y * an : Nat) : Int) := by push_cast; rfl
 rw [e1, w64 (x := ((y * an : Nat) : Int)) (by omega) (by omega)]
 have e2 : ((y * an : Nat) : Int) + (x : Int) = ((y * an + x : Nat) : Int) := by push_cast; rfl
 rw [e2, w64 (x := ((y * an + x : Nat) : Int)) (by omega) (by omega)]
 have e3 : ((y * an + x : Nat) : Int) * (pn : Int) = (((y * an + x) * pn : Nat) : Int) := by push_cast; rfl
 rw [e3, w64 (by omega) (by omega)]
theorem pxAt_nat {an bn pn x y : Nat} (h1 : an ≤ 16) (h2 : bn ≤ 16) (h3 : pn ≤ 4) (hx : x < an) (hy : y < bn) (d : List Int) : pxAt an pn d x y = nx pn d (y * an + x) := by
 obtain ⟨hj, hm⟩ := pixJ_nat h1 h2 h3 hx hy
 have hs := small h1 h2 h3
 unfold pxAt pixT nx
 rw [hj, w64 (by omega) (by omega)]
 have : ((((y * an + x) * pn : Nat) : Int) + (pn : Int)).toNat = (y * an + x) * pn + pn := by omega
 rw [this, Int.toNat_natCast, List.drop_take]
 congr 1
 omega

/- What the reference does with pixels: reads, writes, parts and pastes. -/

theorem ev_run {σ ρ : Type} (n : Nat) (L : Nat → Nat → σ → Option ρ) (E : σ → Nat → Option ρ) (Inv : Nat → σ → Prop)
  (step : ∀ i s, i < n → Inv i s → ∃ s', Inv (i + 1) s' ∧ ∀ r, Ev (fun k => L k (i + 1) s') r → Ev (fun k => L k i s) r)
  (last : ∀ s, Inv n s → ∀ r, Ev (E s) r → Ev (fun k => L k n s) r) :
  ∀ d i s, i + d = n → Inv i s → ∃ s', Inv n s' ∧ ∀ r, Ev (E s') r → Ev (fun k => L k i s) r := by
 intro d
 induction d with
 | zero =>
  intro i s hi hinv
  have : i = n := by omega
  subst this
  exact ⟨s, hinv, last s hinv⟩
 | succ d ih =>
  intro i s hi hinv
  obtain ⟨s1, h1, h2⟩ := step i s (by omega) hinv
  obtain ⟨s2, h3, h4⟩ := ih (i + 1) s1 (by omega) h1
  exact ⟨s2, h3, fun r hr => h2 r (h4 r hr)⟩
theorem copyInts_px (l : List Int) (hl : l.length ≤ 1000000) : spec_copyInts.f l = some l := by
 unfold spec_copyInts.f
 simp only [Option.bind_some]
 rw [if_pos (by simp; omega)]
 simp
theorem laid_set (d ys : List Int) (j i : Nat) (hi : i < ys.length) (hj : j + ys.length ≤ d.length) : (laidOver d j (ys.take i)).set (j + i) ys[i] = laidOver d j (ys.take (i + 1)) := by
 have h1 : (ys.take i).length = i := by rw [List.length_take]; omega
 have h2 : (ys.take (i + 1)).length = i + 1 := by rw [List.length_take]; omega
 have h3 : (d.take j).length = j := by rw [List.length_take]; omega
 unfold laidOver
 rw [h1, h2, List.set_append_right _ _ (by omega), h3, Nat.add_sub_cancel_left, List.set_append_right _ _ (by omega), h1, Nat.sub_self, List.drop_eq_getElem_cons (show j + i < d.length by omega), List.set_cons_zero, List.take_succ_eq_append_getElem hi, List.append_assoc]
 rfl
theorem setPixel_ev {an bn pn x y : Nat} (h1 : an ≤ 16) (h2 : bn ≤ 16) (h3 : pn ≤ 4) (hx : x < an) (hy : y < bn) (d ys : List Int) (hd : d.length = (bn * an) * pn) (hys : ys.length = pn) :
  Ev (fun k => spec_setPixel.f k an bn pn d x y ys) (laidOver d ((y * an + x) * pn) ys) := by
 obtain ⟨hj, hm⟩ := pixJ_nat h1 h2 h3 hx hy
 have hs := small h1 h2 h3
 have hJ : wrap64 ((wrap64 ((wrap64 ((y : Int) * (an : Int))) + (x : Int))) * (pn : Int)) = (((y * an + x) * pn : Nat) : Int) := hj
 generalize hjj : (y * an + x) * pn = j at *
 have HJ := Aside0.mk hJ
 clear hJ hj hjj
 have key := ev_up pn (fun k i s => spec_setPixel.l0 k (x : Int) (y : Int) ys (i : Int) an bn pn s) (fun i s => s = laidOver d j (ys.take i)) (fun _ _ => laidOver d j ys)
  (by
   intro i s hi hinv
   subst hinv
   right
   refine ⟨_, fun k => ?_, laid_set d ys j i (by omega) (by omega), rfl⟩
   simp only [spec_setPixel.l0]
   have e : (((j : Nat) : Int) + (i : Int)) = ((j + i : Nat) : Int) := by push_cast; rfl
   have hl : (laidOver d j (ys.take i)).length = d.length := laidOver_length d j _ (by rw [List.length_take]; omega)
   rw [HJ.out, e, w64 (x := ((j + i : Nat) : Int)) (by omega) (by omega), hl, if_pos (by omega), if_pos (by omega), if_pos (by omega), if_pos (by omega), if_pos (by omega), rd_nat ys i (by omega), w64n i (by omega), Int.toNat_natCast])
  (by
   intro s hinv
   subst hinv
   refine Ev.step (f := fun _ => some (laidOver d j ys)) (fun k => ?_) (Ev.now _)
   simp only [spec_setPixel.l0]
   rw [if_neg (by omega), List.take_of_length_le (by omega)])
  pn 0 d (by omega) (by unfold laidOver; simp)
 unfold spec_setPixel.f
 exact key
theorem pixelAt_eq {an bn pn x y : Nat} (h1 : an ≤ 16) (h2 : bn ≤ 16) (h3 : pn ≤ 4) (hx : x < an) (hy : y < bn) (d : List Int) (hd : d.length = (bn * an) * pn) : spec_pixelAt.f an bn pn d x y = some (nx pn d (y * an + x)) := by
 obtain ⟨hj, hm⟩ := pixJ_nat h1 h2 h3 hx hy
 have hs := small h1 h2 h3
 have hJ : wrap64 ((wrap64 ((wrap64 ((y : Int) * (an : Int))) + (x : Int))) * (pn : Int)) = (((y * an + x) * pn : Nat) : Int) := hj
 have e : ((((y * an + x) * pn : Nat) : Int) + (pn : Int)) = (((y * an + x) * pn + pn : Nat) : Int) := by push_cast; rfl
 have HJ := Aside0.mk hJ
 clear hJ hj
 unfold spec_pixelAt.f nx
 generalize (y * an + x) * pn = j at *
 rw [HJ.out, e, w64 (x := ((j + pn : Nat) : Int)) (by omega) (by omega), if_pos (by omega), if_pos (by omega), if_pos (by omega), Int.toNat_natCast, Int.toNat_natCast, copyInts_px _ (by rw [List.length_drop, List.length_take]; omega)]
 simp only [Option.bind_some]
 congr 1
 rw [List.drop_take]
 congr 1
 omega
theorem newImg_eq {wn hn pn : Nat} (h1 : wn ≤ 16) (h2 : hn ≤ 16) (h3 : pn ≤ 4) : spec_newImage.f wn hn pn = some ((wn : Int), (hn : Int), (pn : Int), List.replicate ((hn * wn) * pn) 0) := by
 have hs := small h1 h2 h3
 have hw : hn * wn ≤ 16 * 16 := Nat.mul_le_mul h2 h1
 have e1 : (wn : Int) * (hn : Int) = ((hn * wn : Nat) : Int) := by rw [Nat.mul_comm]; push_cast; rfl
 have e2 : ((hn * wn : Nat) : Int) * (pn : Int) = (((hn * wn) * pn : Nat) : Int) := by push_cast; rfl
 unfold spec_newImage.f
 rw [e1, w64 (x := ((hn * wn : Nat) : Int)) (by omega) (by omega), e2, w64 (by omega) (by omega), if_pos (by omega), Int.toNat_natCast, if_pos (by omega)]
def cropD (an pn : Nat) (d : List Int) (X Y wn hn : Nat) : List Int := imgD (fun x y => nx pn d ((Y + y) * an + (X + x))) wn hn
theorem cropD_len {an bn pn X Y wn hn : Nat} {d : List Int} (hd : d.length = (bn * an) * pn) (hX : X + wn ≤ an) (hY : Y + hn ≤ bn) : ∀ x y, x < wn → y < hn → (nx pn d ((Y + y) * an + (X + x))).length = pn := fun x y hx hy => nx_length hd (lin_lt (by omega) (by omega))
theorem crop_ev {an bn pn X Y wn hn : Nat} (h1 : an ≤ 16) (h2 : bn ≤ 16) (h3 : pn ≤ 4) (hX : X + wn ≤ an) (hY : Y + hn ≤ bn) (d : List Int) (hd : d.length = (bn * an) * pn) :
  Ev (fun k => spec_crop.f k an bn pn d X Y wn hn) ((wn : Int), (hn : Int), (pn : Int), cropD an pn d X Y wn hn) := by
 unfold spec_crop.f
 refine ev_now (newImg_eq (by omega) (by omega) h3) ?_
 have hlen := cropD_len hd hX hY
 have hfl : (cropD an pn d X Y wn hn).length = (hn * wn) * pn := imgD_length hlen
 have inner : ∀ (r : Nat), r < hn → ∀ s : List Int, (s.length = (hn * wn) * pn ∧ ∀ x y, x < wn → y < r → nx pn s (y * wn + x) = nx pn d ((Y + y) * an + (X + x))) →
   ∃ s' : List Int, (s'.length = (hn * wn) * pn ∧ ∀ x y, x < wn → y < r + 1 → nx pn s' (y * wn + x) = nx pn d ((Y + y) * an + (X + x))) ∧
    ∀ res, Ev (fun k => spec_crop.l0 k X Y wn hn ((r + 1 : Nat) : Int) an bn pn d wn hn pn s') res → Ev (fun k => spec_crop.l1 k X Y wn hn (r : Int) 0 an bn pn d wn hn pn s) res := by
  intro r hr s hs
  obtain ⟨s', h4, h5⟩ := ev_run wn (fun k c s => spec_crop.l1 k X Y wn hn (r : Int) (c : Int) an bn pn d wn hn pn s) (fun s k => spec_crop.l0 k X Y wn hn ((r + 1 : Nat) : Int) an bn pn d wn hn pn s)
   (fun c s => s.length = (hn * wn) * pn ∧ (∀ x y, x < wn → y < r → nx pn s (y * wn + x) = nx pn d ((Y + y) * an + (X + x))) ∧ ∀ x, x < c → nx pn s (r * wn + x) = nx pn d ((Y + r) * an + (X + x)))
   (by
    intro c s hc ⟨hsl, i1, i2⟩
    have hyl : (nx pn d ((Y + r) * an + (X + c))).length = pn := hlen c r hc hr
    have hlin := lin_lt hc hr
    have hm : (r * wn + c + 1) * pn ≤ (hn * wn) * pn := Nat.mul_le_mul_right pn hlin
    rw [Nat.add_mul, Nat.one_mul] at hm
    refine ⟨laidOver s ((r * wn + c) * pn) (nx pn d ((Y + r) * an + (X + c))), ⟨by rw [laidOver_length _ _ _ (by rw [hyl, hsl]; exact hm)]; exact hsl, ?_, ?_⟩, ?_⟩
    ·intro x y hx hy
     rw [nx_laid hsl hyl hlin (lin_lt hx (by omega)), if_neg (fun e => by have := (lin_ne hx hc e).2; omega)]
     exact i1 x y hx hy
    ·intro x hx
     rw [nx_laid hsl hyl hlin (lin_lt (by omega) hr)]
     by_cases e : x = c
     ·subst e; rw [if_pos rfl]
     ·rw [if_neg (by omega)]; exact i2 x (by omega)
    ·intro res hres
     refine Ev.step (f := fun k => (spec_pixelAt.f an bn pn d ((X + c : Nat) : Int) ((Y + r : Nat) : Int)).bind fun t => (spec_setPixel.f k wn hn pn s (c : Int) (r : Int) t).bind fun u => spec_crop.l1 k X Y wn hn (r : Int) ((c + 1 : Nat) : Int) an bn pn d wn hn pn u) (fun k => ?_) (ev_now (pixelAt_eq h1 h2 h3 (by omega) (by omega) d hd) (ev_bind (setPixel_ev (by omega) (by omega) h3 hc hr s _ hsl hyl) hres))
     simp only [spec_crop.l1]
     rw [if_pos (by omega), w64 (x := (X : Int) + (c : Int)) (by omega) (by omega), w64 (x := (Y : Int) + (r : Int)) (by omega) (by omega), w64n c (by omega)]
     push_cast
     rfl)
   (by
    intro s _ res hres
    refine Ev.step (fun k => ?_) hres
    simp only [spec_crop.l1]
    rw [if_neg (by omega), w64n r (by omega)])
   wn 0 s (by omega) ⟨hs.1, hs.2, fun x hx => by omega⟩
  refine ⟨s', ⟨h4.1, fun x y hx hy => ?_⟩, h5⟩
  by_cases e : y = r
  ·subst e; exact h4.2.2 x hx
  ·exact h4.2.1 x y hx (by omega)
 obtain ⟨s', h4, h5⟩ := ev_run hn (fun k r s => spec_crop.l0 k X Y wn hn (r : Int) an bn pn d wn hn pn s) (fun s _ => some ((wn : Int), (hn : Int), (pn : Int), s))
  (fun r s => s.length = (hn * wn) * pn ∧ ∀ x y, x < wn → y < r → nx pn s (y * wn + x) = nx pn d ((Y + y) * an + (X + x)))
  (by
   intro r s hr hs
   obtain ⟨s', i1, i2⟩ := inner r hr s hs
   refine ⟨s', i1, fun res hres => Ev.step (fun k => ?_) (i2 res hres)⟩
   simp only [spec_crop.l0]
   rw [if_pos (by omega)])
  (by
   intro s _ res hres
   refine Ev.step (fun k => ?_) hres
   simp only [spec_crop.l0]
   rw [if_neg (by omega)])
  hn 0 (List.replicate ((hn * wn) * pn) 0) (by omega) ⟨by simp, fun x y hx hy => by omega⟩
 have e : s' = cropD an pn d X Y wn hn := ext_img h4.1 hfl (fun x y hx hy => by rw [h4.2 x y hx hy]; unfold cropD; rw [nx_imgD hlen hx hy])
 subst e
 exact h5 _ (Ev.now _)
def pastePx (an pn : Nat) (d : List Int) (X Y : Int) (wn hn : Nat) (e : List Int) (x y : Nat) : List Int :=
 if X ≤ (x : Int) ∧ (x : Int) < X + wn ∧ Y ≤ (y : Int) ∧ (y : Int) < Y + hn then nx pn e (((y : Int) - Y).toNat * wn + ((x : Int) - X).toNat) else nx pn d (y * an + x)
theorem pastePx_len {an bn pn wn hn : Nat} {d e : List Int} {X Y : Int} (hd : d.length = (bn * an) * pn) (he : e.length = (hn * wn) * pn) : ∀ x y, x < an → y < bn → (pastePx an pn d X Y wn hn e x y).length = pn := by
 intro x y hx hy
 unfold pastePx
 split
 ·exact nx_length he (lin_lt (by omega) (by omega))
 ·exact nx_length hd (lin_lt hx hy)
theorem onImage_eq {an bn : Nat} (h1 : 1 ≤ an ∧ an ≤ 16) (h2 : 1 ≤ bn ∧ bn ≤ 16) (p : Int) (d : List Int) (x y : Int) : spec_onImage.f an bn p d x y = some (decide (0 ≤ x ∧ x < an ∧ 0 ≤ y ∧ y < bn)) := by
 unfold spec_onImage.f
 rw [w64 (x := (an : Int) - 1) (by omega) (by omega), w64 (x := (bn : Int) - 1) (by omega) (by omega), spec_inRangeI_eq, spec_inRangeI_eq]
 simp only [Option.bind_some]
 by_cases c : 0 ≤ x ∧ x ≤ (an : Int) - 1
 ·rw [if_pos (by simpa using c)]; congr 1; rw [Bool.eq_iff_iff]; simp; omega
 ·rw [if_neg (by simpa using c), decide_eq_false (by omega)]
theorem paste_ev {an bn pn wn hn : Nat} {X Y : Int} (h1 : 1 ≤ an ∧ an ≤ 16) (h2 : 1 ≤ bn ∧ bn ≤ 16) (h3 : pn ≤ 4) (h4 : wn ≤ 16) (h5 : hn ≤ 16) (hX : -16 ≤ X ∧ X ≤ 16) (hY : -16 ≤ Y ∧ Y ≤ 16) (d e : List Int) (hd : d.length = (bn * an) * pn) (he : e.length = (hn * wn) * pn) :
  Ev (fun k => spec_paste.f k an bn pn d X Y wn hn pn e) (imgD (pastePx an pn d X Y wn hn e) an bn) := by
 unfold spec_paste.f
 have hlen := pastePx_len (X := X) (Y := Y) hd he
 let I : Nat → Nat → List Int → Prop := fun r c s => s.length = (bn * an) * pn ∧ ∀ x y : Nat, x < an → y < bn → nx pn s (y * an + x) = if X ≤ (x : Int) ∧ (x : Int) < X + wn ∧ Y ≤ (y : Int) ∧ (y : Int) < Y + hn ∧ ((y : Int) < Y + r ∨ ((y : Int) = Y + r ∧ (x : Int) < X + c)) then nx pn e (((y : Int) - Y).toNat * wn + ((x : Int) - X).toNat) else nx pn d (y * an + x)
 have inner : ∀ (r : Nat), r < hn → ∀ s : List Int, I r 0 s → ∃ s' : List Int, I (r + 1) 0 s' ∧
    ∀ res, Ev (fun k => spec_paste.l0 k X Y ((r + 1 : Nat) : Int) an bn pn s' wn hn pn e) res → Ev (fun k => spec_paste.l1 k X Y (r : Int) 0 an bn pn s wn hn pn e) res := by
  intro r hr s hs
  obtain ⟨s', i4, i5⟩ := ev_run wn (fun k c s => spec_paste.l1 k X Y (r : Int) (c : Int) an bn pn s wn hn pn e) (fun s k => spec_paste.l0 k X Y ((r + 1 : Nat) : Int) an bn pn s wn hn pn e) (fun c s => I r c s)
   (by
    intro c s hc ⟨hsl, i1⟩
    have w1 := w64 (x := X + (c : Int)) (by omega) (by omega)
    have w2 := w64 (x := Y + (r : Int)) (by omega) (by omega)
    by_cases on : 0 ≤ X + (c : Int) ∧ X + (c : Int) < an ∧ 0 ≤ Y + (r : Int) ∧ Y + (r : Int) < bn
    ·obtain ⟨x0, hx0⟩ := Int.eq_ofNat_of_zero_le on.1
     obtain ⟨y0, hy0⟩ := Int.eq_ofNat_of_zero_le on.2.2.1
     have hx0a : x0 < an := by omega
     have hy0b : y0 < bn := by omega
     have hyl : (nx pn e (r * wn + c)).length = pn := nx_length he (lin_lt hc hr)
     have hlin := lin_lt hx0a hy0b
     have hm : (y0 * an + x0 + 1) * pn ≤ (bn * an) * pn := Nat.mul_le_mul_right pn hlin
     rw [Nat.add_mul, Nat.one_mul] at hm
     refine ⟨laidOver s ((y0 * an + x0) * pn) (nx pn e (r * wn + c)), ⟨by rw [laidOver_length _ _ _ (by rw [hyl, hsl]; exact hm)]; exact hsl, ?_⟩, ?_⟩
     ·intro x y hx hy
      rw [nx_laid hsl hyl hlin (lin_lt hx hy)]
      by_cases q : x = x0 ∧ y = y0
      ·obtain ⟨rfl, rfl⟩ := q
       rw [if_pos rfl, if_pos (by omega), show ((y : Int) - Y).toNat = r by omega, show ((x : Int) - X).toNat = c by omega]
      ·rw [if_neg (fun z => q (lin_ne hx hx0a z)), i1 x y hx hy]
       by_cases z : X ≤ (x : Int) ∧ (x : Int) < X + wn ∧ Y ≤ (y : Int) ∧ (y : Int) < Y + hn ∧ ((y : Int) < Y + r ∨ ((y : Int) = Y + r ∧ (x : Int) < X + c))
       ·rw [if_pos z, if_pos (by omega)]
       ·rw [if_neg z, if_neg (by omega)]
     ·intro res hres
      refine Ev.step (f := fun k => (spec_onImage.f an bn pn s (X + (c : Int)) (Y + (r : Int))).bind fun u => if u = true then ((spec_pixelAt.f wn hn pn e (c : Int) (r : Int)).bind fun t => (spec_setPixel.f k an bn pn s (X + (c : Int)) (Y + (r : Int)) t).bind fun v => spec_paste.l1 k X Y (r : Int) ((c + 1 : Nat) : Int) an bn pn v wn hn pn e) else spec_paste.l1 k X Y (r : Int) ((c + 1 : Nat) : Int) an bn pn s wn hn pn e) (fun k => ?_) (ev_now (onImage_eq h1 h2 _ _ _ _) (ev_pos (decide_eq_true on) (ev_now (pixelAt_eq h4 h5 h3 hc hr e he) (ev_bind ?_ hres))))
      ·simp only [spec_paste.l1]
       rw [if_pos (by omega), w1, w2, w64n c (by omega)]
      ·rw [hx0, hy0]
       exact setPixel_ev h1.2 h2.2 h3 hx0a hy0b s _ hsl hyl
    ·refine ⟨s, ⟨hsl, fun x y hx hy => ?_⟩, ?_⟩
     ·rw [i1 x y hx hy]
      by_cases z : X ≤ (x : Int) ∧ (x : Int) < X + wn ∧ Y ≤ (y : Int) ∧ (y : Int) < Y + hn ∧ ((y : Int) < Y + r ∨ ((y : Int) = Y + r ∧ (x : Int) < X + c))
      ·rw [if_pos z, if_pos (by omega)]
      ·rw [if_neg z, if_neg (by omega)]
     ·intro res hres
      refine Ev.step (f := fun k => (spec_onImage.f an bn pn s (X + (c : Int)) (Y + (r : Int))).bind fun u => if u = true then ((spec_pixelAt.f wn hn pn e (c : Int) (r : Int)).bind fun t => (spec_setPixel.f k an bn pn s (X + (c : Int)) (Y + (r : Int)) t).bind fun v => spec_paste.l1 k X Y (r : Int) ((c + 1 : Nat) : Int) an bn pn v wn hn pn e) else spec_paste.l1 k X Y (r : Int) ((c + 1 : Nat) : Int) an bn pn s wn hn pn e) (fun k => ?_) (ev_now (onImage_eq h1 h2 _ _ _ _) (ev_neg (by simpa using on) hres))
      simp only [spec_paste.l1]
      rw [if_pos (by omega), w1, w2, w64n c (by omega)])
   (by
    intro s _ res hres
    refine Ev.step (fun k => ?_) hres
    simp only [spec_paste.l1]
    rw [if_neg (by omega), w64n r (by omega)])
   wn 0 s (by omega) hs
  refine ⟨s', ⟨i4.1, fun x y hx hy => ?_⟩, i5⟩
  rw [i4.2 x y hx hy]
  by_cases z : X ≤ (x : Int) ∧ (x : Int) < X + wn ∧ Y ≤ (y : Int) ∧ (y : Int) < Y + hn ∧ ((y : Int) < Y + r ∨ ((y : Int) = Y + r ∧ (x : Int) < X + wn))
  ·rw [if_pos z, if_pos (by omega)]
  ·rw [if_neg z, if_neg (by omega)]
 obtain ⟨s', i4, i5⟩ := ev_run hn (fun k r s => spec_paste.l0 k X Y (r : Int) an bn pn s wn hn pn e) (fun s _ => some s) (fun r s => I r 0 s)
  (by
   intro r s hr hs
   obtain ⟨s', i1, i2⟩ := inner r hr s hs
   refine ⟨s', i1, fun res hres => Ev.step (fun k => ?_) (i2 res hres)⟩
   simp only [spec_paste.l0]
   rw [if_pos (by omega)])
  (by
   intro s _ res hres
   refine Ev.step (fun k => ?_) hres
   simp only [spec_paste.l0]
   rw [if_neg (by omega)])
  hn 0 d (by omega) ⟨hd, fun x y hx hy => by rw [if_neg (by omega)]⟩
 have q : s' = imgD (pastePx an pn d X Y wn hn e) an bn := ext_img i4.1 (imgD_length hlen) (fun x y hx hy => by
  rw [i4.2 x y hx hy, nx_imgD hlen hx hy]
  unfold pastePx
  by_cases z : X ≤ (x : Int) ∧ (x : Int) < X + wn ∧ Y ≤ (y : Int) ∧ (y : Int) < Y + hn
  ·rw [if_pos z, if_pos (by omega)]
  ·rw [if_neg z, if_neg (by omega)])
 subst q
 exact i5 _ (Ev.now _)

/- Two images of the same shape. -/

def sameV (w h p : Int) (d : List Int) (w' h' p' : Int) (d' : List Int) : Bool := validI w h p d && (validI w' h' p' d' && decide (w = w' ∧ h = h' ∧ p = p'))
theorem sameV_iff (w h p : Int) (d : List Int) (w' h' p' : Int) (d' : List Int) : sameV w h p d w' h' p' d' = true ↔ validI w h p d = true ∧ validI w' h' p' d' = true ∧ w = w' ∧ h = h' ∧ p = p' := by
 simp [sameV]
theorem alikeB (w h p w' h' p' : Int) : (if w = w' then (if h = h' then (some (p == p')) else (some false)) else (some false)) = some (decide (w = w' ∧ h = h' ∧ p = p')) := by
 by_cases c1 : w = w'
 ·rw [if_pos c1]
  by_cases c2 : h = h'
  ·rw [if_pos c2]
   by_cases c3 : p = p'
   ·rw [decide_eq_true (show w = w' ∧ h = h' ∧ p = p' from ⟨c1, c2, c3⟩), beq_iff_eq.2 c3]
   ·rw [decide_eq_false (by simp [c3]), beq_eq_false_iff_ne.2 c3]
  ·rw [if_neg c2, decide_eq_false (by simp [c2])]
 ·rw [if_neg c1, decide_eq_false (by simp [c1])]
theorem impl_alike_eq (w h p : Int) (d : List Int) (w' h' p' : Int) (d' : List Int) : impl_alikeImages.f w h p d w' h' p' d' = some (decide (w = w' ∧ h = h' ∧ p = p')) := by
 unfold impl_alikeImages.f
 exact alikeB w h p w' h' p'

/- PatchImage, as the program and the reference have it. -/

def inBx (r : S47) (x y : Nat) : Bool := decide (r.f0 ≤ (x : Int) ∧ (x : Int) < r.f0 + r.f2 ∧ r.f1 ≤ (y : Int) ∧ (y : Int) < r.f1 + r.f3)
def patchPx (an pn : Nat) (d e : List Int) (l : List S47) (x y : Nat) : List Int := if l.any (fun r => inBx r x y) = true then nx pn e (y * an + x) else nx pn d (y * an + x)
theorem patchPx_len {an bn pn : Nat} {d e : List Int} (hd : d.length = (bn * an) * pn) (he : e.length = (bn * an) * pn) (l : List S47) : ∀ x y, x < an → y < bn → (patchPx an pn d e l x y).length = pn := by
 intro x y hx hy
 unfold patchPx
 split
 ·exact nx_length he (lin_lt hx hy)
 ·exact nx_length hd (lin_lt hx hy)
theorem onB_box {a b : Int} {r : S47} (h : onB a b r = true) : ∃ X Y W H : Nat, r = ⟨X, Y, W, H⟩ ∧ 1 ≤ W ∧ 1 ≤ H ∧ (X : Int) + W ≤ a ∧ (Y : Int) + H ≤ b := by
 have h' := (onB_iff a b r).1 h
 obtain ⟨X, hX⟩ := Int.eq_ofNat_of_zero_le h'.1
 obtain ⟨Y, hY⟩ := Int.eq_ofNat_of_zero_le h'.2.2.1
 obtain ⟨W, hW⟩ := Int.eq_ofNat_of_zero_le (show 0 ≤ r.f2 by omega)
 obtain ⟨H, hH⟩ := Int.eq_ofNat_of_zero_le (show 0 ≤ r.f3 by omega)
 exact ⟨X, Y, W, H, by cases r; simp_all, by omega, by omega, by omega, by omega⟩
theorem put1_is {an bn pn : Nat} (h1 : an ≤ 16) (h2 : bn ≤ 16) (h3 : pn ≤ 4) {e : List Int} {x y : Nat} (hx : x < an) (hy : y < bn) (d : List Int) : put1 an pn e x y d = laidOver d ((y * an + x) * pn) (nx pn e (y * an + x)) := by
 unfold put1
 rw [(pixJ_nat h1 h2 h3 hx hy).1, Int.toNat_natCast, ← (pixJ_nat h1 h2 h3 hx hy).1]
 rw [show pixT e (pixJ an pn x y) pn = pxAt an pn e x y from rfl, pxAt_nat h1 h2 h3 hx hy]
theorem put1_len {an bn pn : Nat} (h1 : an ≤ 16) (h2 : bn ≤ 16) (h3 : pn ≤ 4) {e : List Int} (he : e.length = (bn * an) * pn) {x y : Nat} (hx : x < an) (hy : y < bn) {d : List Int} (hd : d.length = (bn * an) * pn) : (put1 an pn e x y d).length = (bn * an) * pn := by
 have hlin := lin_lt hx hy
 have hm : (y * an + x + 1) * pn ≤ (bn * an) * pn := Nat.mul_le_mul_right pn hlin
 rw [Nat.add_mul, Nat.one_mul] at hm
 rw [put1_is h1 h2 h3 hx hy, laidOver_length _ _ _ (by rw [nx_length he hlin, hd]; exact hm)]
 exact hd
theorem put1_nx {an bn pn : Nat} (h1 : an ≤ 16) (h2 : bn ≤ 16) (h3 : pn ≤ 4) {e : List Int} (he : e.length = (bn * an) * pn) {x y : Nat} (hx : x < an) (hy : y < bn) {d : List Int} (hd : d.length = (bn * an) * pn) {x' y' : Nat} (hx' : x' < an) (hy' : y' < bn) : nx pn (put1 an pn e x y d) (y' * an + x') = if x' = x ∧ y' = y then nx pn e (y' * an + x') else nx pn d (y' * an + x') := by
 rw [put1_is h1 h2 h3 hx hy, nx_laid hd (nx_length he (lin_lt hx hy)) (lin_lt hx hy) (lin_lt hx' hy')]
 by_cases c : x' = x ∧ y' = y
 ·rw [if_pos c, if_pos (by rw [c.1, c.2]), c.1, c.2]
 ·rw [if_neg c, if_neg (fun z => c (lin_ne hx' hx z))]
theorem putX_nx {an bn pn : Nat} (h1 : an ≤ 16) (h2 : bn ≤ 16) (h3 : pn ≤ 4) {e : List Int} (he : e.length = (bn * an) * pn) {X y : Nat} (hy : y < bn) {d : List Int} (hd : d.length = (bn * an) * pn) : ∀ n, X + n ≤ an → (putX an pn e X y n d).length = (bn * an) * pn ∧ ∀ x' y', x' < an → y' < bn → nx pn (putX an pn e X y n d) (y' * an + x') = if y' = y ∧ X ≤ x' ∧ x' < X + n then nx pn e (y' * an + x') else nx pn d (y' * an + x') := by
 intro n
 induction n with
 | zero =>
  intro _
  refine ⟨hd, fun x' y' hx' hy' => ?_⟩
  rw [if_neg (by omega)]
  rfl
 | succ n ih =>
  intro hn
  obtain ⟨i1, i2⟩ := ih (by omega)
  rw [putX_succ]
  refine ⟨put1_len h1 h2 h3 he (by omega) hy i1, fun x' y' hx' hy' => ?_⟩
  rw [put1_nx h1 h2 h3 he (by omega) hy i1 hx' hy', i2 x' y' hx' hy']
  by_cases c : x' = X + n ∧ y' = y
  ·rw [if_pos c, if_pos (by omega)]
  ·rw [if_neg c]
   by_cases c2 : y' = y ∧ X ≤ x' ∧ x' < X + n
   ·rw [if_pos c2, if_pos (by omega)]
   ·rw [if_neg c2, if_neg (by omega)]
theorem putB_nx {an bn pn : Nat} (h1 : an ≤ 16) (h2 : bn ≤ 16) (h3 : pn ≤ 4) {e : List Int} (he : e.length = (bn * an) * pn) {X Y W : Nat} (hW : X + W ≤ an) {d : List Int} (hd : d.length = (bn * an) * pn) : ∀ n, Y + n ≤ bn → (putB an pn e X Y W n d).length = (bn * an) * pn ∧ ∀ x' y', x' < an → y' < bn → nx pn (putB an pn e X Y W n d) (y' * an + x') = if X ≤ x' ∧ x' < X + W ∧ Y ≤ y' ∧ y' < Y + n then nx pn e (y' * an + x') else nx pn d (y' * an + x') := by
 intro n
 induction n with
 | zero =>
  intro _
  refine ⟨hd, fun x' y' hx' hy' => ?_⟩
  rw [if_neg (by omega)]
  rfl
 | succ n ih =>
  intro hn
  obtain ⟨i1, i2⟩ := ih (by omega)
  obtain ⟨i3, i4⟩ := putX_nx h1 h2 h3 he (X := X) (y := Y + n) (by omega) i1 W hW
  rw [putB_succ]
  refine ⟨i3, fun x' y' hx' hy' => ?_⟩
  rw [i4 x' y' hx' hy', i2 x' y' hx' hy']
  by_cases c : y' = Y + n ∧ X ≤ x' ∧ x' < X + W
  ·rw [if_pos c, if_pos (by omega)]
  ·rw [if_neg c]
   by_cases c2 : X ≤ x' ∧ x' < X + W ∧ Y ≤ y' ∧ y' < Y + n
   ·rw [if_pos c2, if_pos (by omega)]
   ·rw [if_neg c2, if_neg (by omega)]
theorem patchD_nx {an bn pn : Nat} (h1 : an ≤ 16) (h2 : bn ≤ 16) (h3 : pn ≤ 4) {e : List Int} (he : e.length = (bn * an) * pn) : ∀ (l : List S47), (∀ r ∈ l, onB an bn r = true) → ∀ d : List Int, d.length = (bn * an) * pn → (patchD an pn e l d).length = (bn * an) * pn ∧ ∀ x' y', x' < an → y' < bn → nx pn (patchD an pn e l d) (y' * an + x') = patchPx an pn d e l x' y' := by
 intro l
 induction l with
 | nil =>
  intro _ d hd
  exact ⟨hd, fun x' y' _ _ => rfl⟩
 | cons r l ih =>
  intro hl d hd
  obtain ⟨X, Y, W, H, rfl, hW, hH, hXW, hYH⟩ := onB_box (hl r (by simp))
  obtain ⟨i1, i2⟩ := putB_nx h1 h2 h3 he (X := X) (Y := Y) (W := W) (by omega) hd H (by omega)
  obtain ⟨i3, i4⟩ := ih (fun q hq => hl q (by simp [hq])) _ i1
  have e0 : patchD an pn e ((⟨X, Y, W, H⟩ : S47) :: l) d = patchD an pn e l (putB an pn e X Y W H d) := rfl
  rw [e0]
  refine ⟨i3, fun x' y' hx' hy' => ?_⟩
  rw [i4 x' y' hx' hy']
  unfold patchPx
  rw [List.any_cons, i2 x' y' hx' hy']
  by_cases c : l.any (fun r => inBx r x' y') = true
  ·rw [if_pos c, if_pos (by rw [c]; simp)]
  ·rw [if_neg c]
   have cf : l.any (fun r => inBx r x' y') = false := Bool.eq_false_iff.2 c
   rw [cf, Bool.or_false]
   by_cases c2 : X ≤ x' ∧ x' < X + W ∧ Y ≤ y' ∧ y' < Y + H
   ·rw [if_pos c2, if_pos (by unfold inBx; exact decide_eq_true (by show (X : Int) ≤ x' ∧ (x' : Int) < (X : Int) + (W : Int) ∧ (Y : Int) ≤ y' ∧ (y' : Int) < (Y : Int) + (H : Int); omega))]
   ·rw [if_neg c2, if_neg (by unfold inBx; rw [decide_eq_false (by show ¬ ((X : Int) ≤ x' ∧ (x' : Int) < (X : Int) + (W : Int) ∧ (Y : Int) ≤ y' ∧ (y' : Int) < (Y : Int) + (H : Int)); omega)]; simp)]

/- What the program's and the reference's BlendNumber come to, over whole numbers alone. -/

def P255 (n : Int) : Int := (2 * n + 255) / 510
theorem part255_eq (n : Int) (h0 : 0 ≤ n) (h1 : n ≤ 10000000) : impl_part255.f n = some (P255 n) := by
 unfold impl_part255.f P255
 rw [w64 (x := 2 * n) (by omega) (by omega), w64 (x := 2 * n + 255) (by omega) (by omega), tdiv_nn _ _ (by omega), w64 (by omega) (by omega)]
theorem P255_range (n : Int) (h0 : 0 ≤ n) (h1 : n ≤ 65025) : 0 ≤ P255 n ∧ P255 n ≤ 255 := by unfold P255; omega
theorem prod_range (a b : Int) (ha : 0 ≤ a) (ha' : a ≤ 255) (hb : 0 ≤ b) (hb' : b ≤ 255) : 0 ≤ a * b ∧ a * b ≤ 65025 := by
 refine ⟨Int.mul_nonneg ha hb, ?_⟩
 have := Int.mul_le_mul ha' hb' hb (by omega : (0 : Int) ≤ 255)
 omega
def mixN (mode a b : Int) : Int :=
 if mode = 1 then P255 (a * b) else if mode = 2 then 255 - P255 ((255 - a) * (255 - b)) else if mode = 3 then min a b else if mode = 4 then max a b else b
theorem mixN_range (mode a b : Int) (ha : 0 ≤ a) (ha' : a ≤ 255) (hb : 0 ≤ b) (hb' : b ≤ 255) : 0 ≤ mixN mode a b ∧ mixN mode a b ≤ 255 := by
 have h1 := prod_range a b ha ha' hb hb'
 have h2 := prod_range (255 - a) (255 - b) (by omega) (by omega) (by omega) (by omega)
 have h3 := P255_range _ h1.1 h1.2
 have h4 := P255_range _ h2.1 h2.2
 unfold mixN
 split
 ·exact h3
 split
 ·omega
 split
 ·omega
 split
 ·omega
 ·omega
def coverN (mode a b alpha : Int) : Int := P255 (alpha * mixN mode a b + (255 - alpha) * a)
theorem cover_sum (m a alpha : Int) (ha : 0 ≤ a) (ha' : a ≤ 255) (hm : 0 ≤ m) (hm' : m ≤ 255) (h : 0 ≤ alpha) (h' : alpha ≤ 255) :
  255 * min a m ≤ alpha * m + (255 - alpha) * a ∧ alpha * m + (255 - alpha) * a ≤ 255 * max a m := by
 have e : (255 - alpha) * a = 255 * a - alpha * a := by rw [Int.sub_mul]
 rw [e]
 have k1 : alpha * m - alpha * a = alpha * (m - a) := by rw [Int.mul_sub]
 by_cases c : a ≤ m
 ·have i1 : 0 ≤ alpha * (m - a) := Int.mul_nonneg h (by omega)
  have i2 : alpha * (m - a) ≤ 255 * (m - a) := Int.mul_le_mul_of_nonneg_right h' (by omega)
  omega
 ·have i1 : 0 ≤ alpha * (a - m) := Int.mul_nonneg h (by omega)
  have i2 : alpha * (a - m) ≤ 255 * (a - m) := Int.mul_le_mul_of_nonneg_right h' (by omega)
  have k2 : alpha * m - alpha * a = -(alpha * (a - m)) := by rw [Int.mul_sub]; omega
  omega
theorem cover_between (mode a b alpha : Int) (ha : 0 ≤ a) (ha' : a ≤ 255) (hb : 0 ≤ b) (hb' : b ≤ 255) (h : 0 ≤ alpha) (h' : alpha ≤ 255) :
  min a (mixN mode a b) ≤ coverN mode a b alpha ∧ coverN mode a b alpha ≤ max a (mixN mode a b) := by
 have hm := mixN_range mode a b ha ha' hb hb'
 have hs := cover_sum (mixN mode a b) a alpha ha ha' hm.1 hm.2 h h'
 unfold coverN
 generalize mixN mode a b = m at *
 generalize alpha * m + (255 - alpha) * a = s at *
 unfold P255
 omega
theorem impl_sum (m a alpha : Int) (ha : 0 ≤ a) (ha' : a ≤ 255) (hm : 0 ≤ m) (hm' : m ≤ 255) (h : 0 ≤ alpha) (h' : alpha ≤ 255) :
  wrap64 (wrap64 (alpha * m) + wrap64 (wrap64 (255 - alpha) * a)) = alpha * m + (255 - alpha) * a ∧ 0 ≤ alpha * m + (255 - alpha) * a ∧ alpha * m + (255 - alpha) * a ≤ 65025 := by
 have h1 := prod_range alpha m h h' hm hm'
 have h2 := prod_range (255 - alpha) a (by omega) (by omega) ha ha'
 have h3 := cover_sum m a alpha ha ha' hm hm' h h'
 rw [w64 (x := 255 - alpha) (by omega) (by omega), w64 (x := alpha * m) (by omega) (by omega), w64 (x := (255 - alpha) * a) (by omega) (by omega), w64 (by omega) (by omega)]
 exact ⟨rfl, by omega, by omega⟩
theorem blended_eq (mode a b alpha : Int) (ha : 0 ≤ a) (ha' : a ≤ 255) (hb : 0 ≤ b) (hb' : b ≤ 255) (h : 0 ≤ alpha) (h' : alpha ≤ 255) :
  impl_blended.f mode a b alpha = some (coverN mode a b alpha) := by
 have p1 := prod_range a b ha ha' hb hb'
 have p2 := prod_range (255 - a) (255 - b) (by omega) (by omega) (by omega) (by omega)
 have hm := mixN_range mode a b ha ha' hb hb'
 have q1 := P255_range _ p1.1 p1.2
 have q2 := P255_range _ p2.1 p2.2
 unfold impl_blended.f coverN
 by_cases c1 : mode = 1
 ·rw [if_pos c1, w64 (by omega) (by omega), part255_eq _ p1.1 (by omega)]
  simp only [Option.bind_some]
  have e : mixN mode a b = P255 (a * b) := by simp [mixN, c1]
  rw [e]
  obtain ⟨s1, s2, s3⟩ := impl_sum (P255 (a * b)) a alpha ha ha' q1.1 q1.2 h h'
  rw [s1, part255_eq _ s2 (by omega)]; rfl
 rw [if_neg c1]
 by_cases c2 : mode = 2
 ·rw [if_pos c2, w64 (x := 255 - a) (by omega) (by omega), w64 (x := 255 - b) (by omega) (by omega), w64 (by omega) (by omega), part255_eq _ p2.1 (by omega)]
  simp only [Option.bind_some]
  have e : mixN mode a b = 255 - P255 ((255 - a) * (255 - b)) := by simp [mixN, c2]
  rw [e, w64 (x := 255 - P255 ((255 - a) * (255 - b))) (by omega) (by omega)]
  obtain ⟨s1, s2, s3⟩ := impl_sum (255 - P255 ((255 - a) * (255 - b))) a alpha ha ha' (by omega) (by omega) h h'
  rw [s1, part255_eq _ s2 (by omega)]; rfl
 rw [if_neg c2]
 by_cases c3 : mode = 3
 ·rw [if_pos c3]
  have e : mixN mode a b = mn a b := by simp [mixN, c3, mn_def]
  rw [e] at hm ⊢
  obtain ⟨s1, s2, s3⟩ := impl_sum (mn a b) a alpha ha ha' hm.1 hm.2 h h'
  rw [s1, part255_eq _ s2 (by omega)]; rfl
 rw [if_neg c3]
 by_cases c4 : mode = 4
 ·rw [if_pos c4]
  have e : mixN mode a b = mx a b := by simp [mixN, c4, mx_def]
  rw [e] at hm ⊢
  obtain ⟨s1, s2, s3⟩ := impl_sum (mx a b) a alpha ha ha' hm.1 hm.2 h h'
  rw [s1, part255_eq _ s2 (by omega)]; rfl
 rw [if_neg c4]
 have e : mixN mode a b = b := by simp [mixN, c1, c2, c3, c4]
 rw [e] at hm ⊢
 obtain ⟨s1, s2, s3⟩ := impl_sum b a alpha ha ha' hm.1 hm.2 h h'
 rw [s1, part255_eq _ s2 (by omega)]; rfl
theorem mix_eq (mode a b : Int) (ha : 0 ≤ a) (ha' : a ≤ 255) (hb : 0 ≤ b) (hb' : b ≤ 255) : spec_mix.f mode a b = some (mixN mode a b) := by
 have p1 := prod_range a b ha ha' hb hb'
 have p2 := prod_range (255 - a) (255 - b) (by omega) (by omega) (by omega) (by omega)
 have e1 : 2 * a * b = 2 * (a * b) := Int.mul_assoc ..
 have e2 : 2 * (255 - a) * (255 - b) = 2 * ((255 - a) * (255 - b)) := Int.mul_assoc ..
 unfold spec_mix.f mixN P255
 rw [mn_def, mx_def]
 repeat (split; · first
  | rfl
  | (rw [w64 (x := 2 * a) (by omega) (by omega), e1, w64 (x := 2 * (a * b)) (by omega) (by omega), w64 (x := 2 * (a * b) + 255) (by omega) (by omega), tdiv_nn _ _ (by omega), w64 (by omega) (by omega)])
  | (rw [w64 (x := 255 - a) (by omega) (by omega), w64 (x := 255 - b) (by omega) (by omega), w64 (x := 2 * (255 - a)) (by omega) (by omega), e2, w64 (x := 2 * ((255 - a) * (255 - b))) (by omega) (by omega), w64 (x := 2 * ((255 - a) * (255 - b)) + 255) (by omega) (by omega), tdiv_nn _ _ (by omega), w64 (x := (2 * ((255 - a) * (255 - b)) + 255) / 510) (by omega) (by omega), w64 (by omega) (by omega)]))
 rfl
theorem blend_eq (mode a b alpha : Int) (ha : 0 ≤ a) (ha' : a ≤ 255) (hb : 0 ≤ b) (hb' : b ≤ 255) (h : 0 ≤ alpha) (h' : alpha ≤ 255) :
  spec_blend.f mode a b alpha = some (coverN mode a b alpha) := by
 have hm := mixN_range mode a b ha ha' hb hb'
 unfold spec_blend.f coverN
 rw [mix_eq mode a b ha ha' hb hb']
 simp only [Option.bind_some]
 obtain ⟨s1, s2, s3⟩ := impl_sum (mixN mode a b) a alpha ha ha' hm.1 hm.2 h h'
 rw [s1]
 generalize alpha * mixN mode a b + (255 - alpha) * a = s at *
 unfold P255
 rw [w64 (x := 2 * s) (by omega) (by omega), w64 (x := 2 * s + 255) (by omega) (by omega), tdiv_nn _ _ (by omega), w64 (by omega) (by omega)]

/- Copies of an image: they are the image; marks on an image. -/

theorem toIntS_ev (l : List Int) (hl : l.length ≤ 2000000) : Ev (fun k => laws_toIntS.f k l) l := by
 have key := ev_up l.length (fun k i s => laws_toIntS.l0 k l s (i : Int)) (fun i s => s.length = l.length ∧ s.take i = l.take i) (fun i s => l)
  (by
   intro i s hi hs
   refine .inr ⟨s.set i l[i], fun k => ?_, ⟨by simpa using hs.1, ?_⟩, rfl⟩
   ·simp only [laws_toIntS.l0]
    rw [if_pos (by omega), if_pos (by omega), rd_nat l i hi, if_pos (by omega), w64n i (by omega), Int.toNat_natCast]
   ·rw [take_set s i _ (by omega), hs.2, List.take_succ_eq_append_getElem hi])
  (by
   intro s hs
   refine Ev.step (f := fun _ => some s) (fun k => ?_) (ev_const ?_)
   ·simp only [laws_toIntS.l0]
    rw [if_neg (by omega)]
   ·rw [← List.take_length (l := s), hs.1, hs.2, List.take_length])
  l.length 0 (List.replicate l.length 0) (by omega) ⟨by simp, by simp⟩
 unfold laws_toIntS.f
 refine Ev.congr (fun k => ?_) key
 rw [if_pos (by omega), if_pos (by omega)]
 simp
theorem eqIntS_ev (l : List Int) (hl : l.length ≤ 1000000000000) : Ev (fun k => laws_eqIntS.f k l l) true := by
 have key := ev_up l.length (fun k i (_ : Unit) => laws_eqIntS.l0 k l l (i : Int)) (fun _ _ => True) (fun _ _ => true)
  (by
   intro i s hi _
   refine .inr ⟨(), fun k => ?_, trivial, rfl⟩
   simp only [laws_eqIntS.l0]
   rw [if_pos (by omega), if_pos (by omega), if_pos (by omega), if_pos trivial, w64n i (by omega)])
  (by
   intro s _
   refine Ev.step (f := fun _ => some true) (fun k => ?_) (Ev.now true)
   simp only [laws_eqIntS.l0]
   rw [if_neg (by omega)])
  l.length 0 () (by omega) trivial
 unfold laws_eqIntS.f
 exact ev_pos rfl (by simpa using key)
theorem szIntS_eq (l : List Int) (n : Int) (h0 : 0 ≤ n) (h1 : n ≤ 1048576) (hl : l.length ≤ 9223372036854775807) :
  (l.length ≤ 1048576 ∧ n - (l.length : Int) ≥ 0 ∧ laws_szIntS.f l n = some (n - (l.length : Int))) ∨ laws_szIntS.f l n = some (-1) := by
 unfold laws_szIntS.f
 by_cases c : (l.length : Int) ≤ n
 ·left
  rw [w64 (by omega) (by omega), if_neg (by omega)]
  exact ⟨by omega, by omega, rfl⟩
 ·right
  rw [w64 (by omega) (by omega), if_pos (by omega)]
theorem szImage_eq (w h p : Int) (d : List Int) (n : Int) (h0 : 0 ≤ n) (h1 : n ≤ 1048576) (hl : d.length ≤ 9223372036854775807) :
  (d.length ≤ 1048576 ∧ n - (d.length : Int) ≥ 0 ∧ laws_szImage.f w h p d n = some (n - (d.length : Int))) ∨ laws_szImage.f w h p d n = some (-1) := by
 unfold laws_szImage.f
 rcases szIntS_eq d n h0 h1 hl with ⟨a, b, c⟩ | c
 ·left
  rw [c]
  simp only [Option.bind_some]
  rw [if_neg (by omega)]
  exact ⟨a, b, rfl⟩
 ·right
  rw [c]
  simp only [Option.bind_some]
  rw [if_pos (by omega)]
theorem toImage_ev (w h p : Int) (d : List Int) (hl : d.length ≤ 2000000) : Ev (fun k => laws_toImage.f k w h p d) (w, h, p, d) := by
 unfold laws_toImage.f
 exact ev_bind (toIntS_ev d hl) (Ev.now _)
theorem eqImage_ev (w h p : Int) (d : List Int) (hl : d.length ≤ 1000000000000) : Ev (fun k => laws_eqImage.f k w h p d w h p d) true := by
 unfold laws_eqImage.f
 exact ev_pos rfl (ev_pos rfl (ev_pos rfl (ev_bind (eqIntS_ev d hl) (ev_pos rfl (Ev.now _)))))
end Go.Proofs.Ytnofkbbcbpjhfaa.Pure
